-- Written by a program of this session (gen.py).
import Derived.Test.YtpmojgifbbdncaaDoorPPthx0
namespace Go.Proofs.YtpmojgifbbdncaaDoor.PPth
open Go.RowKit Go.Proofs.YtpmojgifbbdncaaDoorW.PrintWords Go.Proofs.YtpmojgifbbdncaaDoorW.PrintLast Go.Proofs.YtpmojgifbbdncaaDoorW.PrintMore
open Go.Proofs.YtpmojgifbbdncaaDoor.Own
attribute [local go_sem high] unary_not_u32 unary_not_u64 unary_not_u8 string_leq_ string_gtr_
attribute [local go_sem] max2_int min2_int max_two min_two max_three min_three max_four min_four   -- for this text's walks alone
set_option linter.unusedVariables false
set_option linter.unusedSimpArgs false

/-! ### undercroftlaw09_num: function 10 -/
def undercroftlaw09_num.f (a0 : Int) : Option (Int) := some a0
set_option maxHeartbeats 8000000 in
set_option maxRecDepth 100000 in
theorem undercroftlaw09_num.calls (a0 : Int) (r : Int) (w : World) (h : undercroftlaw09_num.f a0 = some r) :
    Calls Tryd.prog 10 #[.int .i64 a0] w fun e w' => e = .returned (.int .i64 r) ∧ Drawn0 w w' := by
  have H : (some a0) = some r := h
  clear h
  obtain rfl := Option.some.inj H
  go_enter Tryd.func10, Tryd.ntmps10
  go_wp2
  go_ret
  exact ⟨by first | rfl | (simp; done) | (simp [*]; done) | (exfalso; simp only [beq_iff_eq, decide_eq_true_eq] at *; omega), by repeat (first | exact Drawn0.refl _ | apply Drawn0.step)⟩

/-! ### strings_Contains: function 32 -/

set_option maxHeartbeats 1000000 in
set_option maxRecDepth 100000 in
/-- internal/stringslite.IndexByte (what strings.IndexByte calls): IT RETURNS 'Lib.indexByte s c'; the world is as it was. -/
theorem stringslite_IndexByte_ (s : ByteArray) (c : Int) (w : World) :
    Calls Tryd.prog 43 #[.string s, .int .u8 c] w fun e w' => e = .returned (.int .i64 (Lib.indexByte s.data.toList c.toNat.toUInt8)) ∧ w' = w := by
  go_enter Tryd.func43, Tryd.ntmps43
  go_wp2
  rw [run_callFunc_extern Tryd.func47 (by kernel_rfl) (by kernel_rfl) (by kernel_rfl) (e := Extern.BytealgIndexByte.indexByte) (by kernel_rfl), Lib.run_indexByteString]
  simp only [Result.andThen]
  rw [Oper.upon_value]
  go_wp2
  go_ret
  exact ⟨rfl, rfl⟩


set_option maxHeartbeats 2000000 in
set_option maxRecDepth 100000 in
/-- internal/stringslite.Index (what strings.Index calls) AT A substr OF ONE BYTE c: IT RETURNS 'Lib.indexByte s c'; the world is as it was. -/
theorem stringslite_Index_one_ (s : ByteArray) (c : UInt8) (w : World) :
    Calls Tryd.prog 42 #[.string s, .string ⟨#[c]⟩] w fun e w' => e = .returned (.int .i64 (Lib.indexByte s.data.toList c)) ∧ w' = w := by
  go_enter Tryd.func42, Tryd.ntmps42
  go_wp2_with (go_at_call 43; refine (stringslite_IndexByte_ _ _ _).mono ?_; rintro e w' ⟨rfl, rfl⟩)
  · have h : ([c] == s.toList) = true := by assumption
    go_ret
    refine ⟨?_, rfl⟩
    have e : s.data.toList = [c] := by rw [← Lib.toList_data]; exact (beq_iff_eq.1 h).symm
    rw [e]
    simp [Lib.indexByte]
  · go_ret
    exact ⟨rfl, rfl⟩



set_option maxHeartbeats 1000000 in
/-- strings.Index: "Index returns the index of the first instance of substr in s, or -1 if substr is not present in s.": AT A substr OF ONE BYTE c: IT RETURNS 'Lib.indexByte s c'; the world is as it was. -/
theorem strings_Index_one_ (s : ByteArray) (c : UInt8) (w : World) :
    Calls Tryd.prog 38 #[.string s, .string ⟨#[c]⟩] w fun e w' => e = .returned (.int .i64 (Lib.indexByte s.data.toList c)) ∧ w' = w := by
  go_enter Tryd.func38, Tryd.ntmps38
  go_wp2_with (go_at_call 42; refine (stringslite_Index_one_ _ _ _).mono ?_; rintro e w' ⟨rfl, rfl⟩)
  go_ret
  exact ⟨rfl, rfl⟩



set_option maxHeartbeats 1000000 in
/-- strings.Contains: "Contains reports whether substr is within s.": AT A substr OF ONE BYTE c: IT RETURNS 'decide (0 ≤ Lib.indexByte s c)'; the world is as it was. -/
theorem strings_Contains_one_ (s : ByteArray) (c : UInt8) (w : World) :
    Calls Tryd.prog 32 #[.string s, .string ⟨#[c]⟩] w fun e w' => e = .returned (.bool (decide (0 ≤ Lib.indexByte s.data.toList c))) ∧ w' = w := by
  go_enter Tryd.func32, Tryd.ntmps32
  go_wp2_with (go_at_call 38; refine (strings_Index_one_ _ _ _).mono ?_; rintro e w' ⟨rfl, rfl⟩)
  go_ret
  exact ⟨rfl, rfl⟩


def strings_Contains.f (a0 a1 : ByteArray) : Option Bool := match a1.data.toList with
  | [c] => some (decide (0 ≤ Lib.indexByte a0.data.toList c))
  | _ => none
theorem strings_Contains.calls (a0 a1 : ByteArray) (r : Bool) (w : World) (h : strings_Contains.f a0 a1 = some r) :
    Calls Tryd.prog 32 #[.string a0, .string a1] w fun e w' => e = .returned (.bool r) ∧ Drawn0 w w' := by
  unfold strings_Contains.f at h
  split at h
  · rename_i c hc
    obtain rfl := Option.some.inj h
    have e : a1 = ⟨#[c]⟩ := by
      apply ByteArray.ext
      apply Array.ext'
      exact hc
    subst e
    refine (strings_Contains_one_ a0 c w).mono ?_
    rintro e w' ⟨rfl, rfl⟩
    exact ⟨rfl, Drawn0.refl _⟩
  · cases h

/-! ### dir_Name: function 26 -/
def dir_Name.f (a0 : ByteArray) : Option (Int) := if a0.toList = ([] : List UInt8) then (some 106) else (if a0.toList = ([46] : List UInt8) then (some 106) else (if a0.toList = ([46, 46] : List UInt8) then (some 106) else (if (a0.size : Int) > 16 then (some 106) else ((strings_Contains.f a0 (⟨#[47]⟩ : ByteArray)).bind fun t101 => (if t101 = true then (some 106) else ((strings_Contains.f a0 (⟨#[0]⟩ : ByteArray)).bind fun t102 => (if t102 = true then (some 106) else (some 0))))))))
set_option maxHeartbeats 8000000 in
set_option maxRecDepth 100000 in
theorem dir_Name.calls (a0 : ByteArray) (r : Int) (w : World) (h : dir_Name.f a0 = some r) :
    Calls Tryd.prog 26 #[.string a0] w fun e w' => e = .returned (.int .i64 r) ∧ Drawn0 w w' := by
  have H : (if a0.toList = ([] : List UInt8) then (some 106) else (if a0.toList = ([46] : List UInt8) then (some 106) else (if a0.toList = ([46, 46] : List UInt8) then (some 106) else (if (a0.size : Int) > 16 then (some 106) else ((strings_Contains.f a0 (⟨#[47]⟩ : ByteArray)).bind fun t101 => (if t101 = true then (some 106) else ((strings_Contains.f a0 (⟨#[0]⟩ : ByteArray)).bind fun t102 => (if t102 = true then (some 106) else (some 0))))))))) = some r := h
  clear h
  by_cases c2 : a0.toList = ([] : List UInt8)
  · rw [if_pos c2] at H
    have c2b0 : (a0.toList == ([] : List UInt8)) = true := beq_iff_eq.mpr c2
    have c2b1 : (a0.toList != ([] : List UInt8)) = false := bne_eq_false_iff_eq.mpr c2
    clear c2
    obtain rfl := Option.some.inj H
    go_enter Tryd.func26, Tryd.ntmps26
    go_wp2
    go_ret
    exact ⟨by first | rfl | (simp; done) | (simp [*]; done) | (exfalso; simp only [beq_iff_eq, decide_eq_true_eq] at *; omega), by repeat (first | exact Drawn0.refl _ | apply Drawn0.step)⟩
  · rw [if_neg c2] at H
    have c2b0 : (a0.toList == ([] : List UInt8)) = false := beq_eq_false_iff_ne.mpr c2
    have c2b1 : (a0.toList != ([] : List UInt8)) = true := bne_iff_ne.mpr c2
    by_cases c3 : a0.toList = ([46] : List UInt8)
    · rw [if_pos c3] at H
      have c3b0 : (a0.toList == ([46] : List UInt8)) = true := beq_iff_eq.mpr c3
      have c3b1 : (a0.toList != ([46] : List UInt8)) = false := bne_eq_false_iff_eq.mpr c3
      clear c3
      obtain rfl := Option.some.inj H
      go_enter Tryd.func26, Tryd.ntmps26
      go_wp2
      go_ret
      exact ⟨by first | rfl | (simp; done) | (simp [*]; done) | (exfalso; simp only [beq_iff_eq, decide_eq_true_eq] at *; omega), by repeat (first | exact Drawn0.refl _ | apply Drawn0.step)⟩
    · rw [if_neg c3] at H
      have c3b0 : (a0.toList == ([46] : List UInt8)) = false := beq_eq_false_iff_ne.mpr c3
      have c3b1 : (a0.toList != ([46] : List UInt8)) = true := bne_iff_ne.mpr c3
      by_cases c4 : a0.toList = ([46, 46] : List UInt8)
      · rw [if_pos c4] at H
        have c4b0 : (a0.toList == ([46, 46] : List UInt8)) = true := beq_iff_eq.mpr c4
        have c4b1 : (a0.toList != ([46, 46] : List UInt8)) = false := bne_eq_false_iff_eq.mpr c4
        clear c4
        obtain rfl := Option.some.inj H
        go_enter Tryd.func26, Tryd.ntmps26
        go_wp2
        go_ret
        exact ⟨by first | rfl | (simp; done) | (simp [*]; done) | (exfalso; simp only [beq_iff_eq, decide_eq_true_eq] at *; omega), by repeat (first | exact Drawn0.refl _ | apply Drawn0.step)⟩
      · rw [if_neg c4] at H
        have c4b0 : (a0.toList == ([46, 46] : List UInt8)) = false := beq_eq_false_iff_ne.mpr c4
        have c4b1 : (a0.toList != ([46, 46] : List UInt8)) = true := bne_iff_ne.mpr c4
        by_cases c5 : (a0.size : Int) > 16
        · rw [if_pos c5] at H
          have c5b0 : decide (16 < (a0.size : Int)) = true := decide_eq_true c5
          have c5b1 : decide (16 < a0.size) = true := decide_eq_true (by omega)
          clear c5
          obtain rfl := Option.some.inj H
          go_enter Tryd.func26, Tryd.ntmps26
          go_wp2
          go_ret
          exact ⟨by first | rfl | (simp; done) | (simp [*]; done) | (exfalso; simp only [beq_iff_eq, decide_eq_true_eq] at *; omega), by repeat (first | exact Drawn0.refl _ | apply Drawn0.step)⟩
        · rw [if_neg c5] at H
          have c5b0 : decide (16 < (a0.size : Int)) = false := decide_eq_false c5
          have c5b1 : decide (16 < a0.size) = false := decide_eq_false (by omega)
          clear c5
          replace H := Option.bind_eq_some_iff.mp H
          obtain ⟨t101, A60, H⟩ := H
          replace H : (if t101 = true then (some 106) else ((strings_Contains.f a0 (⟨#[0]⟩ : ByteArray)).bind fun t102 => (if t102 = true then (some 106) else (some 0)))) = some r := H
          have A6 := Aside0.mk A60
          clear A60
          by_cases c7 : t101 = true
          · subst c7
            have H1 : (some 106) = some r := by rw [if_pos rfl] at H; exact H
            clear H
            have H := H1
            clear H1
            obtain rfl := Option.some.inj H
            go_enter Tryd.func26, Tryd.ntmps26
            go_wp2_with (first | ((with_reducible refine gate_callee (f := 32) rfl ?_); refine goesL_ (some 14) rfl rfl Tryd.func32 (by kernel_rfl) rfl #[.string a0, .string (⟨#[47]⟩ : ByteArray)] rfl (by (try simp only [List.map_toArray, List.map_cons, List.map_nil]); first | done | rfl | (simp only [List.length_drop, List.length_take]; rfl)) ?_; (with_reducible refine (strings_Contains.calls a0 (⟨#[47]⟩ : ByteArray) true _ A6.out).mono ?_); rintro e w' ⟨rfl, ⟨nd, rfl⟩⟩; refine ⟨_, rfl, ?_⟩))
            go_ret
            exact ⟨by first | rfl | (simp; done) | (simp [*]; done) | (exfalso; simp only [beq_iff_eq, decide_eq_true_eq] at *; omega), by repeat (first | exact Drawn0.refl _ | apply Drawn0.step)⟩
          · replace c7 := Bool.eq_false_iff.mpr c7
            subst c7
            have H1 : ((strings_Contains.f a0 (⟨#[0]⟩ : ByteArray)).bind fun t102 => (if t102 = true then (some 106) else (some 0))) = some r := by rw [if_neg (show ¬ (false = true) by decide)] at H; exact H
            clear H
            have H := H1
            clear H1
            replace H := Option.bind_eq_some_iff.mp H
            obtain ⟨t102, A80, H⟩ := H
            replace H : (if t102 = true then (some 106) else (some 0)) = some r := H
            have A8 := Aside0.mk A80
            clear A80
            by_cases c9 : t102 = true
            · subst c9
              have H1 : (some 106) = some r := by rw [if_pos rfl] at H; exact H
              clear H
              have H := H1
              clear H1
              obtain rfl := Option.some.inj H
              go_enter Tryd.func26, Tryd.ntmps26
              go_wp2_with (first | ((with_reducible refine gate_callee (f := 32) rfl ?_); refine goesL_ (some 14) rfl rfl Tryd.func32 (by kernel_rfl) rfl #[.string a0, .string (⟨#[47]⟩ : ByteArray)] rfl (by (try simp only [List.map_toArray, List.map_cons, List.map_nil]); first | done | rfl | (simp only [List.length_drop, List.length_take]; rfl)) ?_; (with_reducible refine (strings_Contains.calls a0 (⟨#[47]⟩ : ByteArray) false _ A6.out).mono ?_); rintro e w' ⟨rfl, ⟨nd, rfl⟩⟩; refine ⟨_, rfl, ?_⟩) | ((with_reducible refine gate_callee (f := 32) rfl ?_); refine goesL_ (some 16) rfl rfl Tryd.func32 (by kernel_rfl) rfl #[.string a0, .string (⟨#[0]⟩ : ByteArray)] rfl (by (try simp only [List.map_toArray, List.map_cons, List.map_nil]); first | done | rfl | (simp only [List.length_drop, List.length_take]; rfl)) ?_; (with_reducible refine (strings_Contains.calls a0 (⟨#[0]⟩ : ByteArray) true _ A8.out).mono ?_); rintro e w' ⟨rfl, ⟨nd, rfl⟩⟩; refine ⟨_, rfl, ?_⟩))
              go_ret
              exact ⟨by first | rfl | (simp; done) | (simp [*]; done) | (exfalso; simp only [beq_iff_eq, decide_eq_true_eq] at *; omega), by repeat (first | exact Drawn0.refl _ | apply Drawn0.step)⟩
            · replace c9 := Bool.eq_false_iff.mpr c9
              subst c9
              have H1 : (some 0) = some r := by rw [if_neg (show ¬ (false = true) by decide)] at H; exact H
              clear H
              have H := H1
              clear H1
              obtain rfl := Option.some.inj H
              go_enter Tryd.func26, Tryd.ntmps26
              go_wp2_with (first | ((with_reducible refine gate_callee (f := 32) rfl ?_); refine goesL_ (some 14) rfl rfl Tryd.func32 (by kernel_rfl) rfl #[.string a0, .string (⟨#[47]⟩ : ByteArray)] rfl (by (try simp only [List.map_toArray, List.map_cons, List.map_nil]); first | done | rfl | (simp only [List.length_drop, List.length_take]; rfl)) ?_; (with_reducible refine (strings_Contains.calls a0 (⟨#[47]⟩ : ByteArray) false _ A6.out).mono ?_); rintro e w' ⟨rfl, ⟨nd, rfl⟩⟩; refine ⟨_, rfl, ?_⟩) | ((with_reducible refine gate_callee (f := 32) rfl ?_); refine goesL_ (some 16) rfl rfl Tryd.func32 (by kernel_rfl) rfl #[.string a0, .string (⟨#[0]⟩ : ByteArray)] rfl (by (try simp only [List.map_toArray, List.map_cons, List.map_nil]); first | done | rfl | (simp only [List.length_drop, List.length_take]; rfl)) ?_; (with_reducible refine (strings_Contains.calls a0 (⟨#[0]⟩ : ByteArray) false _ A8.out).mono ?_); rintro e w' ⟨rfl, ⟨nd, rfl⟩⟩; refine ⟨_, rfl, ?_⟩))
              go_ret
              exact ⟨by first | rfl | (simp; done) | (simp [*]; done) | (exfalso; simp only [beq_iff_eq, decide_eq_true_eq] at *; omega), by repeat (first | exact Drawn0.refl _ | apply Drawn0.step)⟩

/-! ### path_named: function 20 -/
def path_named.l0 : Nat → List ByteArray → List ByteArray → Int → Int → Option (Int)
  | 0, _, _, _, _ => none
  | k + 1, x0, x6, x7, x8 => if x8 < x7 then (if 0 ≤ x8 then (if x8 < (x6.length : Int) then ((dir_Name.f (rdOf ByteArray.empty x6 x8)).bind fun t104 => (if t104 = 0 then (path_named.l0 k x0 x6 x7 (wrap64 (x8 + 1))) else (some t104))) else (none)) else (none)) else (if (x0.length : Int) > 8 then (some 5) else (some 0))
def path_named.f (k : Nat) (l0 : List ByteArray) : Option (Int) := path_named.l0 k l0 l0 (l0.length : Int) 0
theorem path_named.mono_l : ∀ k, (∀ y0 y1 y2 y3, LeO (path_named.l0 k y0 y1 y2 y3) (path_named.l0 (k + 1) y0 y1 y2 y3))
  | 0 => fun _ _ _ _ r h => by simp [path_named.l0] at h
  | k + 1 => by
    have ih0 := path_named.mono_l k
    · intro y0 y1 y2 y3
      unfold path_named.l0
      repeat' first
      | (with_reducible exact ih0 _ _ _ _)
      | (with_reducible exact LeO.refl _)
      | (with_reducible exact LeO.none _)
      | (with_reducible refine LeO.ite ?_ ?_)
      | (with_reducible refine LeO.bind ?_ (fun _ => ?_))
      | exact ih0 _ _ _ _
      | exact LeO.none _
      | refine LeO.ite ?_ ?_
      | refine LeO.bind ?_ (fun _ => ?_)
theorem path_named.mono : ∀ a0 k, LeO (path_named.f k a0) (path_named.f (k + 1) a0) := by
  intro a0 k
  have ih0 := path_named.mono_l k
  unfold path_named.f
  repeat' first
      | (with_reducible exact ih0 _ _ _ _)
      | (with_reducible exact LeO.refl _)
      | (with_reducible exact LeO.none _)
      | (with_reducible refine LeO.ite ?_ ?_)
      | (with_reducible refine LeO.bind ?_ (fun _ => ?_))
      | exact ih0 _ _ _ _
      | exact LeO.none _
      | refine LeO.ite ?_ ?_
      | refine LeO.bind ?_ (fun _ => ?_)
set_option maxHeartbeats 8000000 in
set_option maxRecDepth 100000 in
theorem path_named.calls (k : Nat) (A0 : Option Addr) (c0 : Nat) (l0 : List ByteArray) (r : Int) (w : World) (hr0 : Kd.C Kd.string w A0 l0.length l0) (hc0 : l0.length ≤ c0) (h : path_named.f k l0 = some r) :
    Calls Tryd.prog 20 #[.slice A0 l0.length c0] w fun e w' => e = .returned (.int .i64 r) ∧ Drawn0 w w' := by
  have HR0 := Aside0.mk hr0
  have HC0 := Aside0.mk hc0
  clear hr0 hc0
  have H : (path_named.l0 k l0 l0 (l0.length : Int) 0) = some r := h
  clear h
  have H' := Aside0.mk H
  clear H
  go_enter Tryd.func20, Tryd.ntmps20
  go_wp2
  go_loopg [8] k (fun kq v8 w' => ∃ (x8_1 : Int), v8 = .int .i64 x8_1 ∧ Aside0 (path_named.l0 kq l0 l0 (l0.length : Int) x8_1 = some r) ∧ Aside0 (kq ≤ k) ∧ Drawn0 w w')
  case atStart => exact ⟨(0), (by first | rfl | (simp; done) | (simp [*]; done)), H', ⟨Nat.le_refl _⟩, by repeat (first | exact Drawn0.refl _ | apply Drawn0.step)⟩
  case round =>
    clear H'
    obtain ⟨x8_1, rfl, HA, HK1, ⟨m1, rfl⟩⟩ := hrel
    cases gk with
    | zero => exact absurd HA.out (by simp [path_named.l0])
    | succ k1 =>
      have H := HA.out
      clear HA
      simp only [path_named.l0] at H
      by_cases c2 : x8_1 < (l0.length : Int)
      · rw [if_pos c2] at H
        have c2b0 : decide (x8_1 < (l0.length : Int)) = true := decide_eq_true c2
        clear c2
        by_cases c3 : 0 ≤ x8_1
        · rw [if_pos c3] at H
          have c3b0 : decide (0 ≤ x8_1) = true := decide_eq_true c3
          clear c3
          by_cases c4 : x8_1 < (l0.length : Int)
          · rw [if_pos c4] at H
            have c4b0 : decide (x8_1 < (l0.length : Int)) = true := decide_eq_true c4
            clear c4
            replace H := Option.bind_eq_some_iff.mp H
            obtain ⟨t104, A50, H⟩ := H
            replace H : (if t104 = 0 then (path_named.l0 k1 l0 l0 (l0.length : Int) (wrap64 (x8_1 + 1))) else (some t104)) = some r := H
            have A5 := Aside0.mk A50
            clear A50
            by_cases c6 : t104 = 0
            · rw [if_pos c6] at H
              have c6b0 : (t104 == 0) = true := beq_iff_eq.mpr c6
              have c6b1 : (t104 != 0) = false := bne_eq_false_iff_eq.mpr c6
              clear c6
              have H' := Aside0.mk H
              clear H
              have p103 : 0 ≤ (x8_1 : Int) := of_decide_eq_true (by first | (with_reducible assumption) | assumption)
              have q103 : x8_1 < (l0.length : Int) := of_decide_eq_true (by first | (with_reducible assumption) | assumption)
              obtain ⟨ad103, e103, hx103_0⟩ := Kd.at_string HR0.out x8_1 p103 q103
              cases e103
              replace p103 := eq_true p103
              replace q103 := eq_true q103
              go_wp2_with (first | ((with_reducible refine gate_callee (f := 26) rfl ?_); refine goesL_ (some 13) rfl rfl Tryd.func26 (by kernel_rfl) rfl #[.string (rdOf ByteArray.empty l0 x8_1)] rfl (by (try simp only [List.map_toArray, List.map_cons, List.map_nil]); first | done | rfl | (simp only [List.length_drop, List.length_take]; rfl)) ?_; (with_reducible refine (dir_Name.calls (rdOf ByteArray.empty l0 x8_1) t104 _ A5.out).mono ?_); rintro e w' ⟨rfl, ⟨nd, rfl⟩⟩; refine ⟨_, rfl, ?_⟩))
              go_roundg k1
              case measure => have := HK1.out; omega
              case rel => exact ⟨(wrap64 (x8_1 + 1)), (by first | rfl | (simp; done) | (simp [*]; done)), H', ⟨by have := HK1.out; omega⟩, by repeat (first | exact Drawn0.refl _ | apply Drawn0.step)⟩
            · rw [if_neg c6] at H
              have c6b0 : (t104 == 0) = false := beq_eq_false_iff_ne.mpr c6
              have c6b1 : (t104 != 0) = true := bne_iff_ne.mpr c6
              obtain rfl := Option.some.inj H
              have p103 : 0 ≤ (x8_1 : Int) := of_decide_eq_true (by first | (with_reducible assumption) | assumption)
              have q103 : x8_1 < (l0.length : Int) := of_decide_eq_true (by first | (with_reducible assumption) | assumption)
              obtain ⟨ad103, e103, hx103_0⟩ := Kd.at_string HR0.out x8_1 p103 q103
              cases e103
              replace p103 := eq_true p103
              replace q103 := eq_true q103
              go_wp2_with (first | ((with_reducible refine gate_callee (f := 26) rfl ?_); refine goesL_ (some 13) rfl rfl Tryd.func26 (by kernel_rfl) rfl #[.string (rdOf ByteArray.empty l0 x8_1)] rfl (by (try simp only [List.map_toArray, List.map_cons, List.map_nil]); first | done | rfl | (simp only [List.length_drop, List.length_take]; rfl)) ?_; (with_reducible refine (dir_Name.calls (rdOf ByteArray.empty l0 x8_1) t104 _ A5.out).mono ?_); rintro e w' ⟨rfl, ⟨nd, rfl⟩⟩; refine ⟨_, rfl, ?_⟩))
              go_ret
              exact ⟨by first | rfl | (simp; done) | (simp [*]; done) | (exfalso; simp only [beq_iff_eq, decide_eq_true_eq] at *; omega), by repeat (first | exact Drawn0.refl _ | apply Drawn0.step)⟩
          · rw [if_neg c4] at H
            exact absurd H (by simp)
        · rw [if_neg c3] at H
          exact absurd H (by simp)
      · rw [if_neg c2] at H
        have c2b0 : decide (x8_1 < (l0.length : Int)) = false := decide_eq_false c2
        clear c2
        by_cases c7 : (l0.length : Int) > 8
        · rw [if_pos c7] at H
          have c7b0 : decide (8 < (l0.length : Int)) = true := decide_eq_true c7
          have c7b1 : decide (8 < l0.length) = true := decide_eq_true (by omega)
          clear c7
          obtain rfl := Option.some.inj H
          go_wp2
          go_ret
          exact ⟨by first | rfl | (simp; done) | (simp [*]; done) | (exfalso; simp only [beq_iff_eq, decide_eq_true_eq] at *; omega), by repeat (first | exact Drawn0.refl _ | apply Drawn0.step)⟩
        · rw [if_neg c7] at H
          have c7b0 : decide (8 < (l0.length : Int)) = false := decide_eq_false c7
          have c7b1 : decide (8 < l0.length) = false := decide_eq_false (by omega)
          clear c7
          obtain rfl := Option.some.inj H
          go_wp2
          go_ret
          exact ⟨by first | rfl | (simp; done) | (simp [*]; done) | (exfalso; simp only [beq_iff_eq, decide_eq_true_eq] at *; omega), by repeat (first | exact Drawn0.refl _ | apply Drawn0.step)⟩

/-! ### path_Split: function 11 -/
section
open Go.Shelf
attribute [local go_sem] Oper.semAt_some
section
variable {F : Fence} {n : Nat} {P : Program}
/-- A range over an iterator that keeps what is left in boxes of its own (mine): the caller's word stands whatever is stored there; the body always goes on. -/
theorem range_mine {α : Type} {g : Operand} {ps : Array Tmp} {assign body : Code} {Q : Exit → Act → World → Prop} {a : Act} {w : World} {gf : Nat} {lb : Array Value} {encs : α → Array Value} {Kp : World → World → Prop} {N : Nat} (mine : Nat → Prop) (S : List α → Prop)
    (hro : F.round = none) (h1 : 1 ≤ n) (hg : a.eval g = .func (.func gf) #[] lb) (hFg : F.fn gf) (eg : ∀ args w, (callFunc gf args).run P w = .ok (.enter gf args) w)
    (hmine : ∀ b, mine b → b < w.heap.size)
    (hseq : ∀ (l : Nat) (J : List α → World → Prop) (W : World), Below w.heap.size w W → (∀ s W1 o, J s W1 → J s (W1.alloc o)) → (∀ s W1, J s W1 → J s W1.drew) → (∀ s W1 b v, mine b → J s W1 → J s (W1.setCell ⟨b, 0, none⟩ v)) →
      (∀ pre x W1, J pre W1 → pre.length < N → YieldAt F (n - 1 - 1) P l (encs x) W1 fun e W' => e = .returned (.bool true) ∧ J (pre ++ [x]) W' ∧ Kp W1 W') → J [] W →
      CallsIn F (n - 1) P gf (#[.func (.yield l) #[] #[]] ++ lb) W fun e W' => (∃ v, e = .returned v) ∧ ∃ xs, S xs ∧ J xs W')
    (hKt : ∀ {A B C : World}, Kp A B → Kp B C → Kp A C) (hKb : ∀ (W : World) (l : Nat) (o o' : Obj), w.heap.size ≤ l → W.heap[l]? = some o → o.isCells = false → o.isWalk = false → Kp W (W.putObj l o')) (hps : ∀ x, (encs x).size = ps.size)
    (I : List α → World → Prop) (hI : OwnFrom w.heap.size I) (hId : ∀ s W, I s W → I s W.drew) (hIm : ∀ s W b v, mine b → I s W → I s (W.setCell ⟨b, 0, none⟩ v)) (h0 : I [] w) (a₁ : α → Act)
    (hassign : ∀ (l : Nat) (x : α) (W : World) (K : Act → World → Prop), K (a₁ x) W →
      assign.wpIn (F.inRound l) (n - 1 - 1) P (Exit.then K (fun _ _ _ => False)) { tmps := (ps.zip (encs x)).foldl (fun t (p, v) => t.setIfInBounds p v) a.tmps, defers := [] } W)
    (hbody : ∀ (l : Nat) (pre : List α) (x : α) (W : World), I pre W → pre.length < N → body.wpIn (F.inRound l) (n - 1 - 1) P (ownPostG w.heap.size Kp I (fun _ _ _ => False) (pre ++ [x]) W) (a₁ x) W)
    (hdone : ∀ (D : Nat) (xs : List α) (W : World), w.heap.size ≤ D → S xs → I xs W → W.heap[D]? = some (.deferred (some [])) → Q .normal { a with defers := { target := .collected D, args := #[] } :: a.defers } W) :
    (Code.rangeFunc g ps assign body).wpIn F n P Q a w := by
  refine wpIn_rangeFunc fun fn hfn => ?_
  rw [hro]
  obtain ⟨rec, hrec⟩ : ∃ rec : LoopState → Option Code → Loop, rec = fun st pe => { state := st, pending := pe, fn, tmps := a.tmps, params := ps, assign, body, defers := w.heap.size } := ⟨_, rfl⟩
  obtain ⟨B, hB⟩ : ∃ B, B = w.heap.size := ⟨_, rfl⟩
  obtain ⟨V, hV⟩ : ∃ V, V = (w.alloc (.deferred (some []))).alloc (.loop (rec .ready none)) := ⟨_, rfl⟩
  have hVl : V.heap[B + 1]? = some (.loop (rec .ready none)) := by
    have := World.alloc_heap_new (w.alloc (.deferred (some []))) (.loop (rec .ready none))
    rw [World.size_alloc] at this
    rw [hV, hB]; exact this
  have hVk : V.heap[B]? = some (.deferred (some [])) := by
    rw [hV, hB]; exact (Below.heap_alloc _ _ _ (by simp)).trans (World.alloc_heap_new w _)
  have both : ∀ {A A' : World} {row : Option Nat}, (∀ o, A.heap[B + 1]? = some (.loop o) → A.heap[B]? = some (.deferred (some [])) → A.grownBy A' row → (∀ r, row = some r → r < B) → A'.heap[B + 1]? = some (.loop o) ∧ A'.heap[B]? = some (.deferred (some []))) := by
    intro A A' row o hl hk hgr hr
    exact ⟨(hgr.block _ (Array.getElem?_eq_some_iff.1 hl).1 (fun e => by have := hr _ e.symm; omega)).trans hl, (hgr.block _ (Array.getElem?_eq_some_iff.1 hk).1 (fun e => by have := hr _ e.symm; omega)).trans hk⟩
  refine ⟨B + 1, [{ target := .collected B, args := #[] }], V, { target := .fn (.func gf) lb, args := #[.func (.yield (B + 1)) #[] #[]] }, V, gf, #[.func (.yield (B + 1)) #[] #[]] ++ lb, V, ?_, ?_, ?_, ?_, fun _ => h1, ?_⟩
  · rw [hV, hB, hrec]; exact run_enterLoop_outer _ _ _ _ _
  · simp only [resolve, hg]; simp [go_sem]
  · intro f' hf'; simp [Target.leads] at hf'; subst hf'; exact hFg
  · simp [invoke, go_sem, eg]
  · refine (hseq (B + 1) (fun pre W => I pre W ∧ W.heap[B + 1]? = some (.loop (rec .ready none)) ∧ W.heap[B]? = some (.deferred (some []))) V ?_ ?_ ?_ ?_ ?_ ⟨?_, hVl, hVk⟩).mono ?_
    · rw [hV]; exact ((Below.refl _ w).alloc (Nat.le_refl _) _).alloc (by simp) _
    · rintro s W1 o ⟨hi, hl, hk⟩
      exact ⟨hI.alloc o hi, both _ hl hk (World.grownBy_alloc W1 o none) (fun r e => by cases e)⟩
    · rintro s W1 ⟨hi, hl, hk⟩
      exact ⟨hId _ _ hi, hl, hk⟩
    · rintro s W1 b v hb ⟨hi, hl, hk⟩
      exact ⟨hIm _ _ _ _ hb hi, both _ hl hk (grownBy_setCell' W1 b v) (fun r e => by cases e; rw [hB]; exact hmine b hb)⟩
    · rintro pre x W ⟨hi, hl, hk⟩ hlen
      have hlt : B + 1 < W.heap.size := (Array.getElem?_eq_some_iff.1 hl).1
      have hy := run_yield (P := P) (args := encs x) hl (by rw [hrec]; exact hps x)
      rw [hrec] at hy
      obtain ⟨W2, hW2⟩ : ∃ W2, W2 = W.putObj (B + 1) (.loop { rec .ready none with state := .busy }) := ⟨_, rfl⟩
      have hl2 : W2.heap[B + 1]? = some (.loop { rec .ready none with state := .busy }) := by rw [hW2]; exact World.putObj_heap_same hlt
      have hk2 : W2.heap[B]? = some (.deferred (some [])) := by rw [hW2]; exact (World.putObj_heap_other (by omega)).trans hk
      have hw2 : Kp W W2 := by rw [hW2]; exact hKb _ _ _ _ (by omega) hl rfl rfl
      have hi2 : I pre W2 := by rw [hW2]; exact hI.putObj _ hi (by omega) hl rfl
      refine ⟨fn, _, assign, body, hy, roundIn_of_wpIn hfn (hassign _ x W _ ⟨W2, by rw [hW2]; exact run_beginRound hl (by rw [hrec]), ?_⟩)⟩
      refine wpIn_mono (hbody _ pre x _ hi2 hlen) ?_
      rintro e a3 W3 hp
      cases e with
      | normal =>
        obtain ⟨hk3, hkp3, hi3⟩ := hp
        have hl3 := hk3.same _ _ (by omega) hl2 rfl
        have hend := run_endRound (P := P) none hl3
        rw [hrec] at hend hl3
        refine ⟨_, _, hend, rfl, ⟨?_, ?_, ?_⟩, hKt (hKt hw2 hkp3) (hKb _ _ _ _ (by omega) hl3 rfl rfl)⟩
        · exact hI.putObj _ hi3 (by omega) hl3 rfl
        · rw [hrec]; exact World.putObj_heap_same (Array.getElem?_eq_some_iff.1 hl3).1
        · exact (World.putObj_heap_other (by omega)).trans (hk3.same _ _ (by omega) hk2 rfl)
      | ret => exact hp.2.elim
      | exit id => exact hp.2.elim
      | goto t => exact hp.2.elim
      | panic c => exact hp.elim
      | outgrown => exact hp.elim
    · rw [hV]; exact hI.alloc _ (hI.alloc _ h0)
    · rintro e W' ⟨⟨v, rfl⟩, xs, hs, hi, hl, hk⟩
      exact ⟨none, _, by have := run_endLoop (P := P) hl (by rw [hrec]; simp); rw [hrec] at this; exact this, hdone B xs _ (by omega) hs (hI.putObj _ hi (by omega) hl rfl) ((World.putObj_heap_other (by omega)).trans hk)⟩
end
/-- A text's pieces between slashes. -/
def pieces : List UInt8 → List (List UInt8)
  | [] => [[]]
  | c :: r => if c = 47 then [] :: pieces r else match pieces r with
    | p :: ps => (c :: p) :: ps
    | [] => [[c]]
theorem pieces_ne (l : List UInt8) : pieces l ≠ [] := by
  cases l with
  | nil => simp [pieces]
  | cons c r =>
    unfold pieces
    split
    · simp
    · split <;> simp
theorem pieces_none : ∀ {l : List UInt8}, (∀ k : Nat, l[k]? ≠ some 47) → pieces l = [l]
  | [], _ => rfl
  | c :: r, h => by
    have hc : c ≠ 47 := fun e => h 0 (by rw [e]; rfl)
    unfold pieces
    rw [if_neg hc, pieces_none (fun k => h (k + 1))]
theorem pieces_at : ∀ {l : List UInt8} {i : Nat}, l[i]? = some 47 → (∀ k, k < i → l[k]? ≠ some 47) → pieces l = l.take i :: pieces (l.drop (i + 1))
  | [], _, h, _ => by simp at h
  | c :: r, 0, h, _ => by
    have : c = 47 := by simpa using h
    show pieces (c :: r) = [] :: pieces r
    conv => lhs; unfold pieces
    rw [if_pos this]
  | c :: r, i + 1, h, h2 => by
    have hc : c ≠ 47 := fun e => h2 0 (by omega) (by rw [e]; rfl)
    have ih := pieces_at (l := r) (i := i) h (fun k hk => h2 (k + 1) (by omega))
    conv => lhs; unfold pieces
    rw [if_neg hc, ih]
    rfl
theorem splitSeq_in (a0 a1 : ByteArray) (a2 : Int) (w : World) :
    CallsIn Fence.wide 4 Tryd.prog 31 #[.string a0, .string a1, .int .i64 a2] w fun e w' => e = .returned (.func (.func 36) #[] #[.pointer (some ⟨w.heap.size + 1, 0, none⟩), .pointer (some ⟨w.heap.size, 0, none⟩), .pointer (some ⟨w.heap.size + 2, 0, none⟩)]) ∧ w' = ((w.alloc (.cells #[.string a0] 9)).alloc (.cells #[.string a1] 9)).alloc (.cells #[.int .i64 a2] 3) := by
  refine callsIn_of_wp Tryd.func31 rfl trivial ?_ rfl
  simp only [Tryd.ntmps31, List.size_toArray, List.length_cons, List.length_nil, Nat.reduceAdd, Nat.reduceSub, Array.replicate_succ, Array.replicate_zero, List.push_toArray, List.append_toArray, List.nil_append, List.cons_append]
  gi_wp2
  go_ret
  exact ⟨rfl, rfl⟩
theorem SplitSeq_in (a0 a1 : ByteArray) (w : World) :
    CallsIn Fence.wide 5 Tryd.prog 23 #[.string a0, .string a1] w fun e w' => e = .returned (.func (.func 36) #[] #[.pointer (some ⟨w.heap.size + 1, 0, none⟩), .pointer (some ⟨w.heap.size, 0, none⟩), .pointer (some ⟨w.heap.size + 2, 0, none⟩)]) ∧ w' = ((w.alloc (.cells #[.string a0] 9)).alloc (.cells #[.string a1] 9)).alloc (.cells #[.int .i64 0] 3) := by
  refine callsIn_of_wp Tryd.func23 rfl trivial ?_ rfl
  simp only [Tryd.ntmps23, List.size_toArray, List.length_cons, List.length_nil, Nat.reduceAdd, Nat.reduceSub, Array.replicate_succ, Array.replicate_zero, List.push_toArray, List.append_toArray, List.nil_append, List.cons_append]
  gi_wp2_with (first
    | (refine ⟨trivial, ?_⟩; gi_at_call 31; refine (splitSeq_in _ _ _ _).mono ?_; rintro e w' ⟨rfl, rfl⟩))
  go_ret
  exact ⟨rfl, rfl⟩
theorem cell_kept_other {W : World} (p q : Addr) (v : Value) (h : p.block ≠ q.block) : (W.setCell q v).cell? p = W.cell? p := World.cell?_of_block (Below.heap_setCell W q v p.block h)
/-- What a round keeps: the three boxes. -/
def BoxK (b0 b1 b2 : Nat) (W W' : World) : Prop := W'.cell? ⟨b0, 0, none⟩ = W.cell? ⟨b0, 0, none⟩ ∧ W'.cell? ⟨b1, 0, none⟩ = W.cell? ⟨b1, 0, none⟩ ∧ W'.cell? ⟨b2, 0, none⟩ = W.cell? ⟨b2, 0, none⟩ ∧ W'.frozen? ⟨b0, 0, none⟩ = W.frozen? ⟨b0, 0, none⟩
set_option maxRecDepth 100000 in
set_option maxHeartbeats 4000000 in
theorem split1_in (l b0 : Nat) (a0 : ByteArray) (h128 : a0.size ≤ 128) (J : List ByteArray → World → Prop) (hJa : ∀ s W1 o, J s W1 → J s (World.alloc W1 o)) (hJd : ∀ s W1, J s W1 → J s (World.drew W1)) (hJs : ∀ s W1 v, J s W1 → J s (World.setCell W1 ⟨b0, 0, none⟩ v))
    (hY : ∀ pre x W, J pre W → pre.length < 200 → YieldAt Fence.wide 4 Tryd.prog l #[.string x] W fun e W' => e = .returned (.bool true) ∧ J (pre ++ [x]) W' ∧ BoxK b0 (b0 + 1) (b0 + 2) W W')
    (W : World) (hs : W.cell? ⟨b0, 0, none⟩ = some (.string a0)) (hf : W.frozen? ⟨b0, 0, none⟩ = false) (hp : W.cell? ⟨b0 + 1, 0, none⟩ = some (.string ⟨#[47]⟩)) (hv : W.cell? ⟨b0 + 2, 0, none⟩ = some (.int .i64 0)) (h0 : J [] W) :
    CallsIn Fence.wide 5 Tryd.prog 36 #[.func (.yield l) #[] #[], .pointer (some ⟨b0 + 1, 0, none⟩), .pointer (some ⟨b0, 0, none⟩), .pointer (some ⟨b0 + 2, 0, none⟩)] W fun e W' => (∃ v, e = .returned v) ∧
      ∃ ys, ys.map (·.data.toList) = pieces a0.data.toList ∧ J ys W' := by
  refine callsIn_of_wp Tryd.func36 rfl trivial ?_ rfl
  simp only [Tryd.ntmps36, List.size_toArray, List.length_cons, List.length_nil, Nat.reduceAdd, Nat.reduceSub, Array.replicate_succ, Array.replicate_zero, List.push_toArray, List.append_toArray, List.nil_append, List.cons_append]
  gi_wp2
  gi_loopw [] (fun wr => ∃ (t : ByteArray) (pre : List ByteArray), wr.cell? ⟨b0, 0, none⟩ = some (.string t) ∧ wr.frozen? ⟨b0, 0, none⟩ = false ∧ wr.cell? ⟨b0 + 1, 0, none⟩ = some (.string ⟨#[47]⟩) ∧ wr.cell? ⟨b0 + 2, 0, none⟩ = some (.int .i64 0) ∧ Aside0 (pre.map (·.data.toList) ++ pieces t.data.toList = pieces a0.data.toList) ∧ Aside0 (pre.length + t.size ≤ 128) ∧ J pre wr)
    (fun wr => match wr.cell? ⟨b0, 0, none⟩ with | some (.string t) => t.size | _ => 0)
  case atStart => exact ⟨a0, [], hs, hf, hp, hv, ⟨rfl⟩, ⟨by simp; omega⟩, h0⟩
  case round =>
    obtain ⟨t, pre, ht, htf, hsep, hsv, HP, HL, hJ⟩ := hrel
    have hIX := fun W1 => Tryd.strings_Index_one t 47 W1
    generalize hi : Lib.indexByte t.data.toList 47 = i at *
    have hge := Lib.indexByte_ge t.data.toList 47
    rw [hi] at hge
    have HIX := Aside0.mk hIX
    clear hIX
    by_cases hneg : i = -1
    · subst hneg
      have HN := Aside0.mk (pieces_none (Lib.indexByte_none hi))
      clear hi hge
      obtain ⟨fn, tmps, assign, body, hy, hR⟩ := hY pre t wr hJ (by have := HL.out; omega)
      gi_wp2_with (first
        | (refine ⟨trivial, ?_⟩; gi_at_call 38; refine (callsIn_wide.2 (HIX.out _)).mono ?_; rintro e w' ⟨rfl, rfl⟩))
      refine hR.mono ?_
      rintro e W' ⟨rfl, hJ', hk⟩
      gi_wp2
      go_end0
      exact ⟨⟨_, rfl⟩, pre ++ [t], by rw [← HP.out, HN.out]; simp, hJ'⟩
    · obtain ⟨o, rfl⟩ : ∃ o : Nat, i = (o : Int) := ⟨i.toNat, by omega⟩
      obtain ⟨h47, hbef⟩ := Lib.indexByte_some hi
      have HN := Aside0.mk (pieces_at h47 hbef)
      have hlt : o < t.size := by
        have := (List.getElem?_eq_some_iff.1 h47).1
        rwa [data_length] at this
      have hd : decide ((o : Int) < 0) = false := by simp
      have h128 : t.size ≤ 128 := by have := HL.out; omega
      obtain ⟨fn, tmps, assign, body, hy, hR⟩ := hY pre (t.extract 0 o) wr hJ (by have := HL.out; omega)
      clear hi hge hneg h47 hbef
      gi_wp2_with (first
        | (refine ⟨trivial, ?_⟩; gi_at_call 38; refine (callsIn_wide.2 (HIX.out _)).mono ?_; rintro e w' ⟨rfl, rfl⟩))
      refine hR.mono ?_
      rintro e W' ⟨rfl, hJ', hk⟩
      obtain ⟨k0, k1, k2, kf⟩ := hk
      have hs2 := k0.trans ht
      have hsep2 := k1.trans hsep
      have hsv2 := k2.trans hsv
      have hf2 := kf.trans htf
      clear k0 k1 k2 kf hR hy
      gi_wp2
      have hc1 : (W'.setCell ⟨b0, 0, none⟩ (Value.string (t.extract (o + 1) t.size))).cell? ⟨b0, 0, none⟩ = some (Value.string (t.extract (o + 1) t.size)) := World.cell?_setCell_same' _ _ _ (by rw [hs2]; rfl)
      have hsz : (t.extract (o + 1) t.size).size = t.size - (o + 1) := by simp
      refine ⟨⟨t.extract (o + 1) t.size, pre ++ [t.extract 0 o], hc1, by simp [hf2], (cell_kept_other _ _ _ (by simp)).trans hsep2, (cell_kept_other _ _ _ (by simp)).trans hsv2, ⟨?_⟩, ⟨?_⟩, hJs _ _ _ hJ'⟩, ?_⟩
      · rw [← HP.out, HN.out, Lib.extract_to_end]
        simp [Lib.extract_data]
      · have := HL.out
        simp only [List.length_append, List.length_singleton, hsz]
        omega
      · rw [hc1, ht]
        simp only [hsz]
        omega

/-- What a split of a path's text answers: its names. -/
def splitI (s : ByteArray) : List ByteArray := ((pieces (s.data.toList.drop 1)).filter fun p => !p.isEmpty).map fun p => ⟨p.toArray⟩
def keepI (pre : List ByteArray) : List ByteArray := pre.filter fun x => !x.data.toList.isEmpty
theorem keep_nil {pre : List ByteArray} {x : ByteArray} (h : x.data.toList = []) : keepI (pre ++ [x]) = keepI pre := by
  unfold keepI
  rw [List.filter_append, List.filter_cons, h]
  simp
theorem keep_add {pre : List ByteArray} {x : ByteArray} (h : x.data.toList ≠ []) : keepI (pre ++ [x]) = keepI pre ++ [x] := by
  unfold keepI
  have e : (!x.data.toList.isEmpty) = true := by
    cases hx : x.data.toList with
    | nil => exact absurd hx h
    | cons a b => rfl
  rw [List.filter_append, List.filter_cons, e]
  simp
theorem keep_len (pre : List ByteArray) : (keepI pre).length ≤ pre.length := List.length_filter_le _ _
theorem keep_pieces {ys : List ByteArray} {l : List UInt8} (h : ys.map (·.data.toList) = pieces l) : keepI ys = ((pieces l).filter fun p => !p.isEmpty).map fun p => ⟨p.toArray⟩ := by
  rw [← h]
  clear h
  induction ys with
  | nil => rfl
  | cons y r ih =>
    unfold keepI at ih ⊢
    rw [List.map_cons, List.filter_cons, List.filter_cons]
    split
    · rw [List.map_cons, ih]
    · exact ih
def SplitAt (B : Nat) (pre : List ByteArray) (W : World) : Prop := ∃ v, Boxed W B 22 v ∧ W.ownsRow (B + 4) 9 1 v (keepI pre).length (encs Value.string (keepI pre)) ∧ B + 4 ≤ W.heap.size
set_option maxRecDepth 100000 in
set_option maxHeartbeats 4000000 in
theorem split_main (k : Nat) (a0 : ByteArray) (e : Int) (RR : List ByteArray) (w : World) (hRR : (if e = 0 then splitI a0 else []) = RR) (h1 : a0.size ≤ 128) (h2 : Lib.hasPrefix a0.data.toList [47] = true) (h3 : path_named.f k (splitI a0) = some e) :
    Calls Tryd.prog 11 #[.string a0] w fun en w' => ∃ v0_ : Value, en = .returned (.tuple #[v0_, .int .i64 e]) ∧ Kd.R Kd.string 9 w' w.heap.size (fun _ => True) v0_ RR ∧ Below w.heap.size w w' := by
  have HRR := Aside0.mk hRR
  clear hRR
  have A3 := Aside0.mk h3
  have hd1 : decide (128 < (a0.size : Int)) = false := by simp; omega
  have HCP := Aside0.mk (fun W => Tryd.strings_CutPrefix a0 ⟨#[47]⟩ W)
  rw [h2] at HCP
  obtain ⟨rest, hrest⟩ : ∃ rest : ByteArray, rest = ⟨(Lib.trimPrefix a0.data.toList [47]).toArray⟩ := ⟨_, rfl⟩
  have hrl : rest.data.toList = a0.data.toList.drop 1 := by rw [hrest]; simp [Lib.trimPrefix, h2]
  rw [← hrest] at HCP
  clear h3 h2 hrest
  refine (callsIn_wide (n := 6)).1 ?_
  refine callsIn_of_wp_marks Tryd.func11 rfl trivial ?_ rfl
  simp only [Tryd.ntmps11, List.size_toArray, List.length_cons, List.length_nil, Nat.reduceAdd, Nat.reduceSub, Array.replicate_succ, Array.replicate_zero, List.push_toArray, List.append_toArray, List.nil_append, List.cons_append]
  gi_wp2_with (first
    | (refine ⟨trivial, ?_⟩; gi_at_call 22; refine (callsIn_wide.2 (HCP.out _)).mono ?_; rintro e w' ⟨rfl, rfl⟩)
    | (refine ⟨trivial, ?_⟩; gi_at_call 23; refine (SplitSeq_in _ _ _).mono ?_; rintro e w' ⟨rfl, rfl⟩))
  obtain ⟨ei, hei, hez⟩ := Option.map_eq_some_iff.1 info9
  simp only [Prod.mk.injEq] at hez
  obtain ⟨hz0, hz1, hz2⟩ := hez
  obtain ⟨B, hB⟩ : ∃ B, B = w'.heap.size := ⟨_, rfl⟩
  obtain ⟨W0, hW0⟩ : ∃ W0, W0 = ((((w'.alloc (Obj.cells #[Value.slice none 0 0] 22)).alloc (Obj.cells #[Value.string rest] 9)).alloc (Obj.cells #[Value.string ⟨#[47]⟩] 9)).alloc (Obj.cells #[Value.int IntKind.i64 0] 3)) := ⟨_, rfl⟩
  rw [← hW0, ← hB]
  have hsz : W0.heap.size = B + 4 := by rw [hW0, hB]; simp
  have hb0 : Boxed W0 B 22 (.slice none 0 0) := by
    rw [hW0, hB]
    exact Boxed.alloc (Boxed.alloc (Boxed.alloc (Boxed.new w' 22 _) _) _) _
  have hb1 : W0.cell? ⟨B + 1, 0, none⟩ = some (.string rest) ∧ W0.frozen? ⟨B + 1, 0, none⟩ = false := by
    have h := Boxed.new (w'.alloc (Obj.cells #[Value.slice none 0 0] 22)) 9 (.string rest)
    have e : (w'.alloc (Obj.cells #[Value.slice none 0 0] 22)).heap.size = B + 1 := by simp [hB]
    rw [e] at h
    have h2 := (h.alloc (Obj.cells #[Value.string ⟨#[47]⟩] 9)).alloc (Obj.cells #[Value.int IntKind.i64 0] 3)
    rw [← hW0] at h2
    exact ⟨h2.cell, h2.frozen⟩
  have hb2 : W0.cell? ⟨B + 2, 0, none⟩ = some (.string ⟨#[47]⟩) := by
    have h := Boxed.new ((w'.alloc (Obj.cells #[Value.slice none 0 0] 22)).alloc (Obj.cells #[Value.string rest] 9)) 9 (.string ⟨#[47]⟩)
    have e : ((w'.alloc (Obj.cells #[Value.slice none 0 0] 22)).alloc (Obj.cells #[Value.string rest] 9)).heap.size = B + 2 := by simp [hB]
    rw [e] at h
    have h2 := h.alloc (Obj.cells #[Value.int IntKind.i64 0] 3)
    rw [← hW0] at h2
    exact h2.cell
  have hb3 : W0.cell? ⟨B + 3, 0, none⟩ = some (.int .i64 0) := by
    have h := Boxed.new (((w'.alloc (Obj.cells #[Value.slice none 0 0] 22)).alloc (Obj.cells #[Value.string rest] 9)).alloc (Obj.cells #[Value.string ⟨#[47]⟩] 9)) 3 (.int .i64 0)
    have e : (((w'.alloc (Obj.cells #[Value.slice none 0 0] 22)).alloc (Obj.cells #[Value.string rest] 9)).alloc (Obj.cells #[Value.string ⟨#[47]⟩] 9)).heap.size = B + 3 := by simp [hB]
    rw [e] at h
    rw [← hW0] at h
    exact h.cell
  have hB0 : Below B w' W0 := by
    rw [hW0, hB]
    refine (((((Below.refl _ w').alloc (Nat.le_refl _) _).alloc ?_ _).alloc ?_ _).alloc ?_ _) <;> simp <;> omega
  have HSZ := Aside0.mk hsz
  have HBB := Aside0.mk hB
  clear hW0 hsz hB
  refine range_mine (α := ByteArray) (encs := fun x => #[.string x]) (Kp := BoxK (B + 1) (B + 2) (B + 3)) (N := 200) (gf := 36) (lb := #[.pointer (some ⟨B + 2, 0, none⟩), .pointer (some ⟨B + 1, 0, none⟩), .pointer (some ⟨B + 3, 0, none⟩)]) (fun b => b = B + 1) (fun ys => ys.map (·.data.toList) = pieces rest.data.toList)
    rfl (by decide) rfl trivial (enters_of Tryd.func36 (by kernel_rfl) rfl) (fun b hb => by rw [hb, HSZ.out]; omega) ?seq (fun h k => ⟨k.1.trans h.1, k.2.1.trans h.2.1, k.2.2.1.trans h.2.2.1, k.2.2.2.trans h.2.2.2⟩) ?kb (fun _ => rfl)
    (fun pre W => SplitAt B pre W ∧ Below B w' W) ?own ?drew ?put ?h0
    (fun x => { tmps := #[Value.string a0, undef, Value.slice none 0 0, Value.int IntKind.i64 0, Value.string rest, Value.bool true, Value.pointer (some { block := B, off := 0 }), Value.string x, undef, Value.string a0, Value.int IntKind.i64 ↑a0.size, Value.bool false, Value.tuple #[Value.string rest, Value.bool true], Value.string a0, Value.tuple #[Value.string rest, Value.bool true], Value.string rest, Value.bool true, Value.bool true, Value.bool false, Value.string rest, Value.func (Fn.func 36) #[] #[Value.pointer (some { block := B + 1 + 1, off := 0 }), Value.pointer (some { block := B + 1, off := 0 }), Value.pointer (some { block := B + 1 + 2, off := 0 })], Value.string x, undef, undef, undef, undef, undef, undef, undef, undef, undef, undef, undef, undef], defers := [] }) ?assign ?body ?done
  case assign =>
    intro l x W K hK
    gi_wp2
    exact hK
  case kb =>
    intro W l o o' hl ho hoc _
    have hne : ∀ k, k < B + 4 → k ≠ l := fun k hk => by have := HSZ.out; omega
    exact ⟨World.cell?_of_block (World.putObj_heap_other (hne _ (by simp))), World.cell?_of_block (World.putObj_heap_other (hne _ (by simp))), World.cell?_of_block (World.putObj_heap_other (hne _ (by simp))), by simp only [World.frozen?, World.putObj_heap_other (hne (B + 1) (by simp))]⟩
  case own =>
    refine OwnFrom.and (Own.from (fun s A A' row hs hg hr => ?_) _) (ownFrom_below (Nat.le_of_eq HBB.out) (by have := HSZ.out; omega))
    obtain ⟨v, hv, hrow, h4⟩ := hs
    refine ⟨v, (grownBy_keeps_cells hg hr hv rfl).trans hv, ?_, Nat.le_trans h4 hg.size⟩
    refine hrow.kept hg ?_
    rcases hrow.2 with ⟨rfl, _⟩ | ⟨g, cap, cur, rfl, _, hgb, _⟩
    · exact .inl rfl
    · refine .inr fun e' => ?_
      obtain ⟨o, ho, hc⟩ := hr g (by simpa [Value.ownBlock] using e'.symm)
      rw [hgb] at ho; cases ho; cases hc
  case drew =>
    rintro s A ⟨⟨v, hv, hrow, h4⟩, hb⟩
    exact ⟨⟨v, hv, hrow, h4⟩, below_drew hb⟩
  case put =>
    rintro s A b v rfl ⟨⟨u, hv, hrow, h4⟩, hb⟩
    exact ⟨⟨u, (Below.heap_setCell A _ _ _ (by simp)).trans hv, ownsRow_setCell_below hrow (by simp) _, by simpa [World.setCell] using h4⟩, hb.setCell (by simp) _⟩
  case h0 => exact ⟨⟨_, hb0, own_nil _ _ _ _, by rw [HSZ.out]; exact Nat.le_refl _⟩, hB0⟩
  case seq =>
    intro l J W hW hJa hJd hJs hY hJ0
    have e1 : W.cell? ⟨B + 1, 0, none⟩ = _ := (hW.cell (p := ⟨B + 1, 0, none⟩) (by rw [HSZ.out]; simp)).trans hb1.1
    have e2 : W.cell? ⟨B + 2, 0, none⟩ = _ := (hW.cell (p := ⟨B + 2, 0, none⟩) (by rw [HSZ.out]; simp)).trans hb2
    have e3 : W.cell? ⟨B + 3, 0, none⟩ = _ := (hW.cell (p := ⟨B + 3, 0, none⟩) (by rw [HSZ.out]; simp)).trans hb3
    have e4 : W.frozen? ⟨B + 1, 0, none⟩ = _ := (hW.frozen (p := ⟨B + 1, 0, none⟩) (by rw [HSZ.out]; simp)).trans hb1.2
    have hr : rest.size ≤ 128 := by
      have := congrArg List.length hrl
      rw [data_length, List.length_drop, data_length] at this
      omega
    exact split1_in l (B + 1) rest hr J hJa hJd (fun s W1 v h => hJs s W1 _ v rfl h) hY W e1 e4 e2 e3 hJ0
  case done =>
    rintro D ys W hD hys ⟨⟨v, hv, hrow, h4⟩, hBw⟩ hK
    have hkp : keepI ys = splitI a0 := by rw [keep_pieces hys, hrl]; rfl
    rw [hkp] at hrow
    have hR : Kd.R Kd.string 9 W (B + 4) (fun _ => True) v (splitI a0) := Kd.R_of_own hrow (fun _ _ => trivial)
    obtain ⟨A9, c9, rfl, hl9, hC9⟩ := Kd.R_reads hR
    have hvc := hv.cell
    have HRW := Aside0.mk hrow
    have HC9 := Aside0.mk hC9
    have HL9 := Aside0.mk hl9
    have HR9 := Aside0.mk hR
    have HK := Aside0.mk hK
    have HBW := Aside0.mk hBw
    have HD := Aside0.mk hD
    have HBBs : B = w'.heap.size := HBB.out
    have HBX := Aside0.mk HBBs
    clear hC9 hl9 hR hK hBw hD hrow hkp hys hv h4 hb0 hb1 hb2 hb3 hB0 HBBs
    by_cases he : e = 0
    · have q1 : (e == 0) = true := by simpa using he
      have q2 : (e != 0) = false := by simpa using he
      have HE := Aside0.mk he
      clear he
      gi_wp2_with (first
        | (refine ⟨trivial, ?_⟩; gi_at_call 20; refine (callsIn_wide.2 (path_named.calls k A9 c9 (splitI a0) e _ HC9.out HL9.out A3.out)).mono ?_; rintro e w2 ⟨rfl, hd⟩; obtain ⟨nd, rfl⟩ := hd.out))
      refine ⟨by simp, .inl ⟨_, _, rfl, run_takeDeferred HK.out, ?_⟩⟩
      have hbx := HBX.out
      subst hbx
      have hD := HD.out
      have hs4 := HSZ.out
      refine ⟨_, results_tmp2 rfl _ _ _, _, by rw [HE.out]; rfl, ?_, (pw_below_drewN HBW.out nd).trans (belowK_b (w := w') (Nat.le_refl _) _ D _ _ (by omega) HK.out rfl rfl)⟩
      rw [← HRR.out, if_pos HE.out]
      exact Kd.R_lower (Kd.R_of_own (ownsRow_putObj (pw_own_drewN HRW.out nd) _ HK.out rfl) (fun _ _ => trivial)) (by omega)
    · have q1 : (e == 0) = false := by simpa using he
      have q2 : (e != 0) = true := by simpa using he
      have HE := Aside0.mk he
      clear he
      gi_wp2_with (first
        | (refine ⟨trivial, ?_⟩; gi_at_call 20; refine (callsIn_wide.2 (path_named.calls k A9 c9 (splitI a0) e _ HC9.out HL9.out A3.out)).mono ?_; rintro e w2 ⟨rfl, hd⟩; obtain ⟨nd, rfl⟩ := hd.out))
      refine ⟨by simp, .inl ⟨_, _, rfl, run_takeDeferred HK.out, ?_⟩⟩
      have hbx := HBX.out
      subst hbx
      have hD := HD.out
      have hs4 := HSZ.out
      refine ⟨_, results_tmp2 rfl _ _ _, _, rfl, ?_, (pw_below_drewN HBW.out nd).trans (belowK_b (w := w') (Nat.le_refl _) _ D _ _ (by omega) HK.out rfl rfl)⟩
      rw [← HRR.out, if_neg HE.out]
      exact Kd.R_nil Kd.string 9 _ _ _
  case body =>
    rintro l pre x W ⟨⟨v, hv, hrow, h4⟩, hBw⟩ hlt
    have hvc := hv.cell
    have hvf := hv.frozen
    have HV := Aside0.mk hv
    have HROW := Aside0.mk hrow
    have HBW := Aside0.mk hBw
    have HLT := Aside0.mk hlt
    have HBW2 := Aside0.mk (show B ≤ W.heap.size by have := HV.out.lt; omega)
    have H4 := Aside0.mk h4
    clear hv hrow hBw hlt h4
    by_cases hx : x.toList = []
    · have q1 : (x.toList == []) = true := by rw [hx]; rfl
      gi_wp2
      have hk : keepI (pre ++ [x]) = keepI pre := keep_nil (by rw [← Lib.toList_data]; exact hx)
      exact ⟨(KeepsOthers.refl W).from _, ⟨rfl, rfl, rfl, rfl⟩, ⟨v, HV.out, by rw [hk]; exact HROW.out, H4.out⟩, HBW.out⟩
    · have q1 : (x.toList == []) = false := by simpa using hx
      have HX := Aside0.mk hx
      clear hx
      gi_wp2_with (first
        | (gi_at_builtin; refine wpListIn_append_own _ rfl _ _ 22 rfl (B + 4) 9 ei (.string ⟨#[]⟩) 1 16 Tryd.underlying22 hei hz0 hz1 hz2 rfl (by decide) _ _ _ rfl (HROW.out.alloc _) ⟨W.heap.size, 0, none⟩ 1 1 [.string x] rfl rfl (cell_one_new _ _ _) (by simp [Value.oneCell']) ?b1 ?b2 ?b3 ?_; (case b1 => have := keep_len pre; have := HLT.out; unfold maxLen; omega); (case b2 => have := keep_len pre; have := HLT.out; omega); (case b3 => have := H4.out; simp; omega); intro v2 w1 hown' hgrow _; obtain ⟨g', cap', rfl⟩ := ownsRow_succ hown'; obtain ⟨hv1, hv2, _, hk2, hb2⟩ := HV.out.appended (by decide) (own_weaken HROW.out (show B ≤ B + 4 by omega)) HBW2.out (Nat.le_refl B) (own_weaken hown' (show B ≤ B + 4 by omega)) hgrow; have hc1 := hv1.cell; have hf1 := hv1.frozen; have HV2 := Aside0.mk hv2; have HK2 := Aside0.mk hk2; have HB2 := Aside0.mk hb2; have HO2 := Aside0.mk hown'; have HG := Aside0.mk hgrow; clear hv1 hv2 hk2 hb2 hown' hgrow))
      have hsm : ∀ k, k < B + 4 → k ≠ B → (w1.setCell ⟨B, 0, none⟩ (Value.slice (some ⟨g', 0, none⟩) ((keepI pre).length + 1) cap')).heap[k]? = W.heap[k]? := fun k h1 h2 => by
        have h4 := H4.out
        have hne : some k ≠ v.ownBlock := fun e => by have := own_base HROW.out k e.symm; omega
        exact (Below.heap_setCell w1 _ _ _ h2).trans ((HG.out.block k (by simp; omega) hne).trans (Below.heap_alloc W _ _ (by omega)))
      refine ⟨HK2.out.from _, ⟨World.cell?_of_block (hsm _ (by simp) (by simp)), World.cell?_of_block (hsm _ (by simp) (by simp)), World.cell?_of_block (hsm _ (by simp) (by simp)), by simp only [World.frozen?, hsm (B + 1) (by simp) (by simp)]⟩, ⟨_, HV2.out, ?_, Nat.le_trans H4.out HB2.out.size⟩, HBW.out.trans HB2.out⟩
      have hk : keepI (pre ++ [x]) = keepI pre ++ [x] := keep_add (fun e => HX.out (by rw [Lib.toList_data]; exact e))
      rw [hk, List.length_append, List.length_singleton]
      have h := ownsRow_setCell_below HO2.out (a := ⟨B, 0, none⟩) (by simp) (Value.slice (some ⟨g', 0, none⟩) ((keepI pre).length + 1) cap')
      simpa [encs] using h
def path_Split.f (k : Nat) (a0 : ByteArray) : Option (List ByteArray × Int) := if a0.size ≤ 128 then (if Lib.hasPrefix a0.data.toList [47] = true then ((path_named.f k (splitI a0)).bind fun e => some (if e = 0 then splitI a0 else [], e)) else some ([], 106)) else some ([], 5)
theorem path_Split.mono : ∀ a0 k, LeO (path_Split.f k a0) (path_Split.f (k + 1) a0) := by
  intro a0 k
  unfold path_Split.f
  exact LeO.ite (LeO.ite (LeO.bind (path_named.mono _ k) (fun _ => LeO.refl _)) (LeO.refl _)) (LeO.refl _)
theorem path_Split.calls (k : Nat) (a0 : ByteArray) (r1 : List ByteArray) (r2 : Int) (w : World) (h : path_Split.f k a0 = some (r1, r2)) :
    Calls Tryd.prog 11 #[.string a0] w fun e w' => ∃ v0_ : Value, e = .returned (.tuple #[v0_, .int .i64 r2]) ∧ Kd.R Kd.string 9 w' w.heap.size (fun _ => True) v0_ r1 ∧ Below w.heap.size w w' := by
  unfold path_Split.f at h
  by_cases h1 : a0.size ≤ 128
  · rw [if_pos h1] at h
    by_cases h2 : Lib.hasPrefix a0.data.toList [47] = true
    · rw [if_pos h2] at h
      obtain ⟨e, h3, h⟩ := Option.bind_eq_some_iff.1 h
      obtain ⟨rfl, rfl⟩ := Prod.mk.inj (Option.some.inj h)
      exact split_main k a0 e _ w rfl h1 h2 h3
    · rw [if_neg h2] at h
      obtain ⟨rfl, rfl⟩ := Prod.mk.inj (Option.some.inj h)
      have hd1 : decide (128 < (a0.size : Int)) = false := by simp; omega
      have HCP := Aside0.mk (fun W => Tryd.strings_CutPrefix a0 ⟨#[47]⟩ W)
      have h3 : Lib.hasPrefix a0.data.toList (#[47] : Array UInt8).toList = false := by simpa using h2
      rw [show (⟨#[47]⟩ : ByteArray).data.toList = (#[47] : Array UInt8).toList from rfl, h3] at HCP
      clear h h1 h2 h3
      go_enter Tryd.func11, Tryd.ntmps11
      go_wp2_with (go_at_call 22; refine (HCP.out _).mono ?_; rintro e w' ⟨rfl, rfl⟩)
      go_ret2
      exact ⟨_, rfl, Kd.R_nil _ _ _ _ _, Below.refl _ _⟩
  · rw [if_neg h1] at h
    obtain ⟨rfl, rfl⟩ := Prod.mk.inj (Option.some.inj h)
    have hd1 : decide (128 < (a0.size : Int)) = true := by simp; omega
    clear h h1
    go_enter Tryd.func11, Tryd.ntmps11
    go_wp2
    go_ret2
    exact ⟨_, rfl, Kd.R_nil _ _ _ _ _, Below.refl _ _⟩
end

end Go.Proofs.YtpmojgifbbdncaaDoor.PPth
