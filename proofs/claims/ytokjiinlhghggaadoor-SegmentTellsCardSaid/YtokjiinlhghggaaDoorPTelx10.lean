-- Written by a program of this session (gen.py).
import Derived.Test.YtokjiinlhghggaaDoorPTelx0
import Derived.Test.YtokjiinlhghggaaDoorPTelx8
import Derived.Test.YtokjiinlhghggaaDoorPTelx9
namespace Go.Proofs.YtokjiinlhghggaaDoor.PTel
open Go.RowKit Go.Proofs.YtokjiinlhghggaaDoorW.PrintWords Go.Proofs.YtokjiinlhghggaaDoorW.PrintLast Go.Proofs.YtokjiinlhghggaaDoorW.PrintMore
open Go.Proofs.YtokjiinlhghggaaDoor.Own
attribute [local go_sem high] unary_not_u32 unary_not_u64 unary_not_u8 string_leq_ string_gtr_
attribute [local go_sem] max2_int min2_int max_two min_two max_three min_three max_four min_four   -- for this text's walks alone
set_option linter.unusedVariables false
set_option linter.unusedSimpArgs false

/-! ### undercroftref13_Open: function 19 -/
mutual
def undercroftref13_Open.j0 : Nat → List Int → Int → Int → Bool → Option (Int × (List (S60)) × Int)
  | 0, _, _, _, _ => none
  | k + 1, x0, x4, x5, x53 => if x53 = true then (some (0, ([] : List (S60)), 9)) else (undercroftref13_Open.l0 k x0 x5 (wrap64 (13 + (wrap64 (6 * x5)))) 0 (wrap64 (x4)) ([] : List (S60)))
def undercroftref13_Open.l0 : Nat → List Int → Int → Int → Int → Int → List (S60) → Option (Int × (List (S60)) × Int)
  | 0, _, _, _, _, _, _ => none
  | k + 1, x0, x5, x7, x8, x209000, x209001 => if x8 < x5 then (if 0 ≤ (wrap64 (13 + (wrap64 (6 * x8)))) then (if (wrap64 (13 + (wrap64 (6 * x8)))) ≤ (wrap64 (19 + (wrap64 (6 * x8)))) then (if (wrap64 (19 + (wrap64 (6 * x8)))) ≤ (x0.length : Int) then (if 5 < (((x0.take ((wrap64 (19 + (wrap64 (6 * x8)))) : Int).toNat).drop ((wrap64 (13 + (wrap64 (6 * x8)))) : Int).toNat).length : Int) then (if (wrap64 (rd ((x0.take ((wrap64 (19 + (wrap64 (6 * x8)))) : Int).toNat).drop ((wrap64 (13 + (wrap64 (6 * x8)))) : Int).toNat) 5)) > 32 then (some (0, ([] : List (S60)), 9)) else (if 4 ≤ (((x0.take ((wrap64 (19 + (wrap64 (6 * x8)))) : Int).toNat).drop ((wrap64 (13 + (wrap64 (6 * x8)))) : Int).toNat).length : Int) then ((undercroftref01_Number.f k (((x0.take ((wrap64 (19 + (wrap64 (6 * x8)))) : Int).toNat).drop ((wrap64 (13 + (wrap64 (6 * x8)))) : Int).toNat).take 4)).bind fun t212 => (if 4 < (((x0.take ((wrap64 (19 + (wrap64 (6 * x8)))) : Int).toNat).drop ((wrap64 (13 + (wrap64 (6 * x8)))) : Int).toNat).length : Int) then (if 0 ≤ x7 then (if x7 ≤ (wrap64 (x7 + (wrap64 (rd ((x0.take ((wrap64 (19 + (wrap64 (6 * x8)))) : Int).toNat).drop ((wrap64 (13 + (wrap64 (6 * x8)))) : Int).toNat) 5)))) then (if (wrap64 (x7 + (wrap64 (rd ((x0.take ((wrap64 (19 + (wrap64 (6 * x8)))) : Int).toNat).drop ((wrap64 (13 + (wrap64 (6 * x8)))) : Int).toNat) 5)))) ≤ (x0.length : Int) then ((undercroftref02_Copied.f ((x0.take ((wrap64 (x7 + (wrap64 (rd ((x0.take ((wrap64 (19 + (wrap64 (6 * x8)))) : Int).toNat).drop ((wrap64 (13 + (wrap64 (6 * x8)))) : Int).toNat) 5)))) : Int).toNat).drop (x7 : Int).toNat)).bind fun t215 => (if x209001.length < 3518437208883 then (undercroftref13_Open.l0 k x0 x5 (wrap64 (x7 + (wrap64 (rd ((x0.take ((wrap64 (19 + (wrap64 (6 * x8)))) : Int).toNat).drop ((wrap64 (13 + (wrap64 (6 * x8)))) : Int).toNat) 5)))) (wrap64 (x8 + 1)) x209000 (x209001 ++ [(⟨wrap64 (t212), wrap64 (rd ((x0.take ((wrap64 (19 + (wrap64 (6 * x8)))) : Int).toNat).drop ((wrap64 (13 + (wrap64 (6 * x8)))) : Int).toNat) 4), t215⟩ : S60)])) else (none))) else (none)) else (none)) else (none)) else (none))) else (none))) else (none)) else (none)) else (none)) else (none)) else ((undercroftref13_Check.f k x209000 x209001).bind fun t221 => (if t221 = 0 then (undercroftref13_Open.l1 k x0 x7 x209000 x209001) else (some (0, ([] : List (S60)), 9))))
def undercroftref13_Open.l1 : Nat → List Int → Int → Int → List (S60) → Option (Int × (List (S60)) × Int)
  | 0, _, _, _, _ => none
  | k + 1, x0, x11, x209000, x209001 => if x11 < 380 then (if 0 ≤ x11 then (if x11 < (x0.length : Int) then (if (rd x0 x11) = 0 then (undercroftref13_Open.l1 k x0 (wrap64 (x11 + 1)) x209000 x209001) else (some (0, ([] : List (S60)), 23))) else (none)) else (none)) else (some (x209000, x209001, 0))
end
def undercroftref13_Open.f (k : Nat) (l0 : List Int) : Option (Int × (List (S60)) × Int) := if (l0.length : Int) = 384 then (if 380 ≤ (l0.length : Int) then ((undercroftref01_Number.f k (l0.drop 380)).bind fun t201 => ((undercroftref02_Sum.f k (l0.take 380)).bind fun t203 => (if t201 = (IntKind.u64.wrap (t203)) then (if 4 ≤ (l0.length : Int) then (if (strOfNums (l0.take 4)).toList = ([115, 101, 103, 49] : List UInt8) then (if 4 ≤ 12 then (if 12 ≤ (l0.length : Int) then ((undercroftref01_Number.f k ((l0.take 12).drop 4)).bind fun t206 => (if 12 < (l0.length : Int) then (if (wrap64 (rd l0 12)) < 1 then (undercroftref13_Open.j0 k l0 t206 (wrap64 (rd l0 12)) true) else (if (wrap64 (rd l0 12)) > 8 then (undercroftref13_Open.j0 k l0 t206 (wrap64 (rd l0 12)) true) else (if t206 < 1 then (undercroftref13_Open.j0 k l0 t206 (wrap64 (rd l0 12)) true) else (undercroftref13_Open.j0 k l0 t206 (wrap64 (rd l0 12)) (decide (t206 > 1099511627776)))))) else (none))) else (none)) else (none)) else (some (0, ([] : List (S60)), 22))) else (none)) else (some (0, ([] : List (S60)), 21))))) else (none)) else (some (0, ([] : List (S60)), 3))
theorem undercroftref13_Open.mono_l : ∀ k, (∀ y0 y1 y2 y3, LeO (undercroftref13_Open.j0 k y0 y1 y2 y3) (undercroftref13_Open.j0 (k + 1) y0 y1 y2 y3)) ∧ (∀ y0 y1 y2 y3 y4 y5, LeO (undercroftref13_Open.l0 k y0 y1 y2 y3 y4 y5) (undercroftref13_Open.l0 (k + 1) y0 y1 y2 y3 y4 y5)) ∧ (∀ y0 y1 y2 y3, LeO (undercroftref13_Open.l1 k y0 y1 y2 y3) (undercroftref13_Open.l1 (k + 1) y0 y1 y2 y3))
  | 0 => ⟨fun _ _ _ _ r h => by simp [undercroftref13_Open.j0] at h, fun _ _ _ _ _ _ r h => by simp [undercroftref13_Open.l0] at h, fun _ _ _ _ r h => by simp [undercroftref13_Open.l1] at h⟩
  | k + 1 => by
    obtain ⟨ih0, ih1, ih2⟩ := undercroftref13_Open.mono_l k
    refine ⟨?_, ?_, ?_⟩
    · intro y0 y1 y2 y3
      unfold undercroftref13_Open.j0
      repeat' first
      | (with_reducible exact ih0 _ _ _ _)
      | (with_reducible exact ih1 _ _ _ _ _ _)
      | (with_reducible exact ih2 _ _ _ _)
      | (with_reducible exact undercroftref01_Number.mono _ _)
      | (with_reducible exact undercroftref02_Sum.mono _ _)
      | (with_reducible exact undercroftref13_Check.mono _ _ _)
      | (with_reducible exact LeO.refl _)
      | (with_reducible exact LeO.none _)
      | (with_reducible refine LeO.ite ?_ ?_)
      | (with_reducible refine LeO.bind ?_ (fun _ => ?_))
      | exact ih0 _ _ _ _
      | exact ih1 _ _ _ _ _ _
      | exact ih2 _ _ _ _
      | exact undercroftref01_Number.mono _ _
      | exact undercroftref02_Sum.mono _ _
      | exact undercroftref13_Check.mono _ _ _
      | exact LeO.none _
      | refine LeO.ite ?_ ?_
      | refine LeO.bind ?_ (fun _ => ?_)
    · intro y0 y1 y2 y3 y4 y5
      unfold undercroftref13_Open.l0
      repeat' first
      | (with_reducible exact ih0 _ _ _ _)
      | (with_reducible exact ih1 _ _ _ _ _ _)
      | (with_reducible exact ih2 _ _ _ _)
      | (with_reducible exact undercroftref01_Number.mono _ _)
      | (with_reducible exact undercroftref02_Sum.mono _ _)
      | (with_reducible exact undercroftref13_Check.mono _ _ _)
      | (with_reducible exact LeO.refl _)
      | (with_reducible exact LeO.none _)
      | (with_reducible refine LeO.ite ?_ ?_)
      | (with_reducible refine LeO.bind ?_ (fun _ => ?_))
      | exact ih0 _ _ _ _
      | exact ih1 _ _ _ _ _ _
      | exact ih2 _ _ _ _
      | exact undercroftref01_Number.mono _ _
      | exact undercroftref02_Sum.mono _ _
      | exact undercroftref13_Check.mono _ _ _
      | exact LeO.none _
      | refine LeO.ite ?_ ?_
      | refine LeO.bind ?_ (fun _ => ?_)
    · intro y0 y1 y2 y3
      unfold undercroftref13_Open.l1
      repeat' first
      | (with_reducible exact ih0 _ _ _ _)
      | (with_reducible exact ih1 _ _ _ _ _ _)
      | (with_reducible exact ih2 _ _ _ _)
      | (with_reducible exact undercroftref01_Number.mono _ _)
      | (with_reducible exact undercroftref02_Sum.mono _ _)
      | (with_reducible exact undercroftref13_Check.mono _ _ _)
      | (with_reducible exact LeO.refl _)
      | (with_reducible exact LeO.none _)
      | (with_reducible refine LeO.ite ?_ ?_)
      | (with_reducible refine LeO.bind ?_ (fun _ => ?_))
      | exact ih0 _ _ _ _
      | exact ih1 _ _ _ _ _ _
      | exact ih2 _ _ _ _
      | exact undercroftref01_Number.mono _ _
      | exact undercroftref02_Sum.mono _ _
      | exact undercroftref13_Check.mono _ _ _
      | exact LeO.none _
      | refine LeO.ite ?_ ?_
      | refine LeO.bind ?_ (fun _ => ?_)
theorem undercroftref13_Open.mono : ∀ a0 k, LeO (undercroftref13_Open.f k a0) (undercroftref13_Open.f (k + 1) a0) := by
  intro a0 k
  obtain ⟨ih0, ih1, ih2⟩ := undercroftref13_Open.mono_l k
  unfold undercroftref13_Open.f
  repeat' first
      | (with_reducible exact ih0 _ _ _ _)
      | (with_reducible exact ih1 _ _ _ _ _ _)
      | (with_reducible exact ih2 _ _ _ _)
      | (with_reducible exact undercroftref01_Number.mono _ _)
      | (with_reducible exact undercroftref02_Sum.mono _ _)
      | (with_reducible exact undercroftref13_Check.mono _ _ _)
      | (with_reducible exact LeO.refl _)
      | (with_reducible exact LeO.none _)
      | (with_reducible refine LeO.ite ?_ ?_)
      | (with_reducible refine LeO.bind ?_ (fun _ => ?_))
      | exact ih0 _ _ _ _
      | exact ih1 _ _ _ _ _ _
      | exact ih2 _ _ _ _
      | exact undercroftref01_Number.mono _ _
      | exact undercroftref02_Sum.mono _ _
      | exact undercroftref13_Check.mono _ _ _
      | exact LeO.none _
      | refine LeO.ite ?_ ?_
      | refine LeO.bind ?_ (fun _ => ?_)
def undercroftref13_Open.T3 : Bool × List (List Nat × List Nat) := (true, [([], []), ([0], [0]), ([1], [1]), ([], []), ([3], [3]), ([4, 2], [4]), ([5], [5]), ([2, 6], [2, 6]), ([7, 5], [7])])
def undercroftref13_Open.B3 : List Nat := [0, 1, 3, 0, 8, 31, 63, 127, 255]
theorem undercroftref13_Open.tab3 : rtab .any (opsOf Tryd.f19 3) = undercroftref13_Open.T3 := by kernel_rfl
theorem undercroftref13_Open.bits3 : waitsOk undercroftref13_Open.T3.2 undercroftref13_Open.B3 = true := by kernel_rfl
def undercroftref13_Open.T7 : Bool × List (List Nat × List Nat) := (true, [([], []), ([0], [0]), ([1], [1]), ([], []), ([3], [3]), ([4], [4]), ([5], [5]), ([2, 2, 0, 1, 2], [2]), ([6, 7, 0, 1, 2, 3, 4, 5, 6, 7], [6])])
def undercroftref13_Open.B7 : List Nat := [0, 1, 3, 0, 8, 24, 56, 7, 255]
theorem undercroftref13_Open.tab7 : rtab .any (opsOf Tryd.f19 7) = undercroftref13_Open.T7 := by kernel_rfl
theorem undercroftref13_Open.bits7 : waitsOk undercroftref13_Open.T7.2 undercroftref13_Open.B7 = true := by kernel_rfl
def undercroftref13_Open.T19 : Bool × List (List Nat × List Nat) := (true, [([], []), ([0], [0]), ([], []), ([2], [2]), ([3], [3]), ([4], [4]), ([], []), ([6], [6]), ([7], [7]), ([8], [8]), ([], []), ([], []), ([], []), ([], []), ([12, 13], [12, 13]), ([10, 11, 14], [10, 11, 14]), ([15, 4], [15]), ([5, 9, 16], [5, 9, 16]), ([17], [17]), ([1, 18, 16], [1, 18]), ([0, 1, 2, 3, 4, 5, 6, 7, 8, 9, 10, 11, 12, 13, 14, 15, 16, 17, 18, 19], []), ([20, 19, 19, 0, 1, 2, 3, 4, 5, 6, 7, 8, 9, 10, 11, 12, 13, 14, 15, 16, 17, 18, 19], [19, 20])])
def undercroftref13_Open.B19 : List Nat := [0, 1, 0, 4, 12, 28, 0, 64, 192, 448, 0, 0, 0, 0, 12288, 31744, 64540, 131068, 262140, 524287, 1048575, 2097151]
theorem undercroftref13_Open.tab19 : rtab .any (opsOf Tryd.f19 19) = undercroftref13_Open.T19 := by kernel_rfl
theorem undercroftref13_Open.bits19 : waitsOk undercroftref13_Open.T19.2 undercroftref13_Open.B19 = true := by kernel_rfl
set_option maxHeartbeats 8000000 in
set_option maxRecDepth 100000 in
theorem undercroftref13_Open.calls (k : Nat) (A0 : Option Addr) (c0 : Nat) (l0 : List Int) (r1 : Int) (r2 : List (S60)) (r3 : Int) (w : World) (hr0 : Kd.C (Kd.int .u8) w A0 l0.length l0) (hc0 : l0.length ≤ c0) (h : undercroftref13_Open.f k l0 = some (r1, r2, r3)) :
    Calls Tryd.prog 19 #[.slice A0 l0.length c0] w fun e w' => ∃ v1_ : Value, e = .returned (.tuple #[.agg #[.int .i64 r1, v1_], .int .i64 r3]) ∧ Kd.S k60 60 w' w.heap.size (fun _ => True) v1_ r2 ∧ Below w.heap.size w w' := by
  have hu24 := Tryd.underlying24
  have hu60 := Tryd.underlying60
  have HR0 := Aside0.mk hr0
  have HC0 := Aside0.mk hc0
  clear hr0 hc0
  have HB := Aside0.mk (Below.refl w.heap.size w)
  have H : (if (l0.length : Int) = 384 then (if 380 ≤ (l0.length : Int) then ((undercroftref01_Number.f k (l0.drop 380)).bind fun t201 => ((undercroftref02_Sum.f k (l0.take 380)).bind fun t203 => (if t201 = (IntKind.u64.wrap (t203)) then (if 4 ≤ (l0.length : Int) then (if (strOfNums (l0.take 4)).toList = ([115, 101, 103, 49] : List UInt8) then (if 4 ≤ 12 then (if 12 ≤ (l0.length : Int) then ((undercroftref01_Number.f k ((l0.take 12).drop 4)).bind fun t206 => (if 12 < (l0.length : Int) then (if (wrap64 (rd l0 12)) < 1 then (undercroftref13_Open.j0 k l0 t206 (wrap64 (rd l0 12)) true) else (if (wrap64 (rd l0 12)) > 8 then (undercroftref13_Open.j0 k l0 t206 (wrap64 (rd l0 12)) true) else (if t206 < 1 then (undercroftref13_Open.j0 k l0 t206 (wrap64 (rd l0 12)) true) else (undercroftref13_Open.j0 k l0 t206 (wrap64 (rd l0 12)) (decide (t206 > 1099511627776)))))) else (none))) else (none)) else (none)) else (some (0, ([] : List (S60)), 22))) else (none)) else (some (0, ([] : List (S60)), 21))))) else (none)) else (some (0, ([] : List (S60)), 3))) = some (r1, r2, r3) := h
  clear h
  by_cases c2 : (l0.length : Int) = 384
  · rw [if_pos c2] at H
    have c2b0 : ((l0.length : Int) == 384) = true := beq_iff_eq.mpr c2
    have c2b1 : ((l0.length : Int) != 384) = false := bne_eq_false_iff_eq.mpr c2
    clear c2
    by_cases c3 : 380 ≤ (l0.length : Int)
    · rw [if_pos c3] at H
      have c3b0 := eq_true c3
      have c3b1 : decide (380 ≤ (l0.length : Int)) = true := decide_eq_true c3
      clear c3
      replace H := Option.bind_eq_some_iff.mp H
      obtain ⟨t201, A40, H⟩ := H
      replace H : ((undercroftref02_Sum.f k (l0.take 380)).bind fun t203 => (if t201 = (IntKind.u64.wrap (t203)) then (if 4 ≤ (l0.length : Int) then (if (strOfNums (l0.take 4)).toList = ([115, 101, 103, 49] : List UInt8) then (if 4 ≤ 12 then (if 12 ≤ (l0.length : Int) then ((undercroftref01_Number.f k ((l0.take 12).drop 4)).bind fun t206 => (if 12 < (l0.length : Int) then (if (wrap64 (rd l0 12)) < 1 then (undercroftref13_Open.j0 k l0 t206 (wrap64 (rd l0 12)) true) else (if (wrap64 (rd l0 12)) > 8 then (undercroftref13_Open.j0 k l0 t206 (wrap64 (rd l0 12)) true) else (if t206 < 1 then (undercroftref13_Open.j0 k l0 t206 (wrap64 (rd l0 12)) true) else (undercroftref13_Open.j0 k l0 t206 (wrap64 (rd l0 12)) (decide (t206 > 1099511627776)))))) else (none))) else (none)) else (none)) else (some (0, ([] : List (S60)), 22))) else (none)) else (some (0, ([] : List (S60)), 21)))) = some (r1, r2, r3) := H
      have A4 := Aside0.mk A40
      clear A40
      have c5b0 := eq_true (of_decide_eq_true (by first | (with_reducible assumption) | assumption) : 380 ≤ (l0.length : Int))
      replace H := Option.bind_eq_some_iff.mp H
      obtain ⟨t203, A60, H⟩ := H
      replace H : (if t201 = (IntKind.u64.wrap (t203)) then (if 4 ≤ (l0.length : Int) then (if (strOfNums (l0.take 4)).toList = ([115, 101, 103, 49] : List UInt8) then (if 4 ≤ 12 then (if 12 ≤ (l0.length : Int) then ((undercroftref01_Number.f k ((l0.take 12).drop 4)).bind fun t206 => (if 12 < (l0.length : Int) then (if (wrap64 (rd l0 12)) < 1 then (undercroftref13_Open.j0 k l0 t206 (wrap64 (rd l0 12)) true) else (if (wrap64 (rd l0 12)) > 8 then (undercroftref13_Open.j0 k l0 t206 (wrap64 (rd l0 12)) true) else (if t206 < 1 then (undercroftref13_Open.j0 k l0 t206 (wrap64 (rd l0 12)) true) else (undercroftref13_Open.j0 k l0 t206 (wrap64 (rd l0 12)) (decide (t206 > 1099511627776)))))) else (none))) else (none)) else (none)) else (some (0, ([] : List (S60)), 22))) else (none)) else (some (0, ([] : List (S60)), 21))) = some (r1, r2, r3) := H
      have A6 := Aside0.mk A60
      clear A60
      by_cases c7 : t201 = (IntKind.u64.wrap (t203))
      · rw [if_pos c7] at H
        have c7b0 : (t201 == (IntKind.u64.wrap (t203))) = true := beq_iff_eq.mpr c7
        have c7b1 : (t201 != (IntKind.u64.wrap (t203))) = false := bne_eq_false_iff_eq.mpr c7
        clear c7
        by_cases c8 : 4 ≤ (l0.length : Int)
        · rw [if_pos c8] at H
          have c8b0 := eq_true c8
          have c8b1 : decide (4 ≤ (l0.length : Int)) = true := decide_eq_true c8
          clear c8
          by_cases c9 : (strOfNums (l0.take 4)).toList = ([115, 101, 103, 49] : List UInt8)
          · rw [if_pos c9] at H
            have c9b0 : ((strOfNums (l0.take 4)).toList == ([115, 101, 103, 49] : List UInt8)) = true := beq_iff_eq.mpr c9
            have c9b1 : ((strOfNums (l0.take 4)).toList != ([115, 101, 103, 49] : List UInt8)) = false := bne_eq_false_iff_eq.mpr c9
            clear c9
            by_cases c10 : 4 ≤ 12
            · rw [if_pos c10] at H
              have c10b0 := eq_true c10
              have c10b1 : decide (4 ≤ 12) = true := decide_eq_true c10
              clear c10
              by_cases c11 : 12 ≤ (l0.length : Int)
              · rw [if_pos c11] at H
                have c11b0 := eq_true c11
                have c11b1 : decide (12 ≤ (l0.length : Int)) = true := decide_eq_true c11
                clear c11
                replace H := Option.bind_eq_some_iff.mp H
                obtain ⟨t206, A120, H⟩ := H
                replace H : (if 12 < (l0.length : Int) then (if (wrap64 (rd l0 12)) < 1 then (undercroftref13_Open.j0 k l0 t206 (wrap64 (rd l0 12)) true) else (if (wrap64 (rd l0 12)) > 8 then (undercroftref13_Open.j0 k l0 t206 (wrap64 (rd l0 12)) true) else (if t206 < 1 then (undercroftref13_Open.j0 k l0 t206 (wrap64 (rd l0 12)) true) else (undercroftref13_Open.j0 k l0 t206 (wrap64 (rd l0 12)) (decide (t206 > 1099511627776)))))) else (none)) = some (r1, r2, r3) := H
                have A12 := Aside0.mk A120
                clear A120
                by_cases c13 : 12 < (l0.length : Int)
                · rw [if_pos c13] at H
                  have c13b0 : decide (12 < (l0.length : Int)) = true := decide_eq_true c13
                  have c13b1 : decide (12 < l0.length) = true := decide_eq_true (by omega)
                  clear c13
                  have HC14 := Aside0.mk H
                  clear H
                  go_enter Tryd.func19, Tryd.ntmps19
                  try go_wp2_with (first | ((with_reducible refine gate_dst (N := 2) rfl ?_); refine box_event ?hg (N := 2) ?hd (cs := #[.int .i64 0, .slice none 0 0]) (t := 24) ?hr ?_; (case hd => rfl); (case hg => rfl); (case hr => first | (go_simp; done) | (go_simp; rfl)); intro gb199 hg w15 hbox hb; have n0_ := Aside0.mk (below_step (by repeat (first | (with_reducible first | exact HB.out | apply below_alloc | apply pw_below_drewN | apply below_drew1) | exact HB.out)) hb); have n1_ := Aside0.mk (hbox); have n2_ := Aside0.mk ((by rw [hg]; exact (below_size (by repeat (first | (with_reducible first | exact HB.out | apply below_alloc | apply pw_below_drewN | apply below_drew1) | exact HB.out))) : w.heap.size ≤ gb199)); have n3_ := Aside0.mk ((by rw [hg]; exact (below_size (by repeat (first | (with_reducible first | exact HB.out | apply below_alloc | apply pw_below_drewN | apply below_drew1) | exact HB.out))) : w.heap.size ≤ gb199)); clear HB; have HB := n0_; have BK199 := n1_; have GW199 := n2_; have GE199 := n3_; clear n0_ n1_ n2_ n3_; clear hb hbox hg))
                  have n0_ := Aside0.mk (blk_drew BK199.out)
                  have n1_ := Aside0.mk (below_drew1 HB.out)
                  clear BK199
                  clear HB
                  have BK199 := n0_
                  have HB := n1_
                  clear n0_ n1_
                  obtain ⟨i017, hi017, _, hsz17, _⟩ := info_parts info5
                  obtain ⟨A17, hcut17, hA17, hC17⟩ := print_drop_of (P := Tryd.prog) (Value.int .u8) 0 25 5 .i64 Tryd.underlying25 hi017 hsz17 A0 c0 l0 380 (by omega) (of_decide_eq_true (by first | (with_reducible assumption) | assumption)) HC0.out
                  have HR200 := Aside0.mk (Kd.C_of_reads (h1 := fun _ => rfl) (hA17 _ (Kd.reads_of_C HR0.out)))
                  have HC200 := Aside0.mk hC17
                  clear hA17 hC17 hi017 hsz17
                  obtain ⟨i018, hi018, _, hsz18, _⟩ := info_parts info5
                  obtain ⟨hcut18, hA18, hC18⟩ := print_take_of (P := Tryd.prog) (Value.int .u8) 0 25 5 .i64 Tryd.underlying25 hi018 hsz18 A0 c0 l0 380 (by omega) (of_decide_eq_true (by first | (with_reducible assumption) | assumption)) HC0.out
                  have HR202 := Aside0.mk (Kd.C_of_reads (h1 := fun _ => rfl) (hA18 _ (Kd.reads_of_C HR0.out)))
                  have HC202 := Aside0.mk hC18
                  clear hA18 hC18 hi018 hsz18
                  refine start_ (n := 9) (S := fun w' => True) (ds := []) #[false, false, false, false, false, false, false, false, false] (by kernel_rfl) rfl rfl trivial (fun hHeld => ?_); refine with_tabW undercroftref13_Open.tab3 undercroftref13_Open.bits3 (fun HT_ HW_ => ?_)
                  generalize w15.drew = w16 at BK199 HB HR200 HR202 hHeld ⊢
                  refine pure_ (i := 0) (N := some 18) (v := ?_) (a' := ?_) #[true, false, false, false, false, false, false, false, false] rfl rfl (any_of HT_.out (by kernel_rfl)) (fun _ _ _ h => h) (Or.inl ⟨by rfl, ?_⟩) ?_ ?_
                  rotate_left
                  · intro w'
                    go_simp
                    with_reducible rfl
                  rotate_left
                  · simp only [Act.put, List.setIfInBounds_toArray, List.set_cons_zero, List.set_cons_succ, i64_w, i32_w]
                    rfl
                  refine pure_ (i := 1) (N := some 19) (v := ?_) (a' := ?_) #[true, true, false, false, false, false, false, false, false] rfl rfl (any_of HT_.out (by kernel_rfl)) (fun _ _ _ h => h) (Or.inl ⟨by rfl, ?_⟩) ?_ ?_
                  rotate_left
                  · intro w'
                    go_simp
                    with_reducible rfl
                  rotate_left
                  · simp only [Act.put, List.setIfInBounds_toArray, List.set_cons_zero, List.set_cons_succ, i64_w, i32_w]
                    rfl
                  refine pure_ (i := 3) (N := some 21) (v := ?_) (a' := ?_) #[true, true, false, true, false, false, false, false, false] rfl rfl (any_of HT_.out (by kernel_rfl)) (fun _ _ _ h => h) (Or.inl ⟨by rfl, ?_⟩) ?_ ?_
                  rotate_left
                  · intro w'
                    go_simp
                    with_reducible rfl
                  rotate_left
                  · simp only [Act.put, List.setIfInBounds_toArray, List.set_cons_zero, List.set_cons_succ, i64_w, i32_w]
                    rfl
                  refine pure_ (i := 4) (N := some 22) (v := ?_) (a' := ?_) #[true, true, false, true, true, false, false, false, false] rfl rfl (any_of HT_.out (by kernel_rfl)) (fun _ _ _ h => h) (Or.inl ⟨by rfl, ?_⟩) ?_ ?_
                  rotate_left
                  · intro w'
                    go_simp
                    with_reducible rfl
                  rotate_left
                  · simp only [Act.put, List.setIfInBounds_toArray, List.set_cons_zero, List.set_cons_succ, i64_w, i32_w]
                    rfl
                  refine one_ (i := 2) (N := some 20) #[true, true, true, true, true, false, false, false, false] rfl rfl (one_of HT_.out (by kernel_rfl)) (by decide) (fun K hK => ?_)
                  refine goes_ Tryd.func37 (by kernel_rfl) rfl #[.slice A17 (l0.drop 380).length (c0 - 380)] (by rfl) rfl rfl (by (try simp only [List.map_toArray, List.map_cons, List.map_nil]); first | done | (rw [show (l0.drop 380).length = (l0.length - 380) from List.length_drop] <;> rfl) | rfl | (simp only [List.length_drop, List.length_take]; rfl)) ?_
                  with_reducible refine (undercroftref01_Number.calls k _ _ (l0.drop 380) t201 _ ?side1 ?side2 A4.out).mono ?_
                  (case side1 => repeat (first | exact (Kd.C_below HR200.out HB.out) | (with_reducible refine Kd.C_alloc ?_ _) | (with_reducible refine Kd.C_drewN ?_ _) | (with_reducible refine Kd.C_drew ?_)))
                  (case side2 => exact HC200.out)
                  rintro e w' ⟨rfl, ⟨nd, rfl⟩⟩
                  refine ⟨_, rfl, ?_⟩
                  refine hK.out _ _ trivial (fun hHeld => ?_)
                  clear hK K
                  refine norm_ (a' := ?_) ?_ ?_
                  rotate_left
                  · show Act.put _ (some 20) _ = _
                    simp only [Act.put, List.setIfInBounds_toArray, List.set_cons_zero, List.set_cons_succ, i64_w, i32_w]
                    rfl
                  refine one_ (i := 5) (N := some 23) #[true, true, true, true, true, true, false, false, false] rfl rfl (one_of HT_.out (by kernel_rfl)) (by decide) (fun K hK => ?_)
                  refine goes_ Tryd.func36 (by kernel_rfl) rfl #[.slice A0 (l0.take 380).length c0] (by rfl) rfl rfl (by (try simp only [List.map_toArray, List.map_cons, List.map_nil]); first | done | (rw [show (l0.take 380).length = 380 from (by rw [List.length_take]; have h_ : (380 : Int) ≤ (l0.length : Int) := of_decide_eq_true (by first | (with_reducible assumption) | assumption); omega)] <;> rfl) | rfl | (simp only [List.length_drop, List.length_take]; rfl)) ?_
                  with_reducible refine (undercroftref02_Sum.calls k _ _ (l0.take 380) t203 _ ?side1 ?side2 A6.out).mono ?_
                  (case side1 => repeat (first | exact (Kd.C_below HR202.out (by repeat (first | (with_reducible first | exact HB.out | apply below_alloc | apply pw_below_drewN | apply below_drew1 | refine below_set ?_ GE199.out) | exact HB.out))) | (with_reducible refine Kd.C_alloc ?_ _) | (with_reducible refine Kd.C_drewN ?_ _) | (with_reducible refine Kd.C_drew ?_)))
                  (case side2 => exact HC202.out)
                  rintro e w' ⟨rfl, ⟨nd, rfl⟩⟩
                  refine ⟨_, rfl, ?_⟩
                  refine hK.out _ _ trivial (fun hHeld => ?_)
                  clear hK K
                  refine norm_ (a' := ?_) ?_ ?_
                  rotate_left
                  · show Act.put _ (some 23) _ = _
                    simp only [Act.put, List.setIfInBounds_toArray, List.set_cons_zero, List.set_cons_succ, i64_w, i32_w]
                    rfl
                  refine pure_ (i := 6) (N := some 24) (v := ?_) (a' := ?_) #[true, true, true, true, true, true, true, false, false] rfl rfl (any_of HT_.out (by kernel_rfl)) (fun _ _ _ h => h) (Or.inl ⟨by rfl, ?_⟩) ?_ ?_
                  rotate_left
                  · intro w'
                    go_simp
                    with_reducible rfl
                  rotate_left
                  · simp only [Act.put, List.setIfInBounds_toArray, List.set_cons_zero, List.set_cons_succ, i64_w, i32_w]
                    rfl
                  refine pure_ (i := 7) (N := some 25) (v := ?_) (a' := ?_) #[true, true, true, true, true, true, true, true, false] rfl rfl (any_of HT_.out (by kernel_rfl)) (fun _ _ _ h => h) (Or.inl ⟨by rfl, ?_⟩) ?_ ?_
                  rotate_left
                  · intro w'
                    go_simp
                    with_reducible rfl
                  rotate_left
                  · simp only [Act.put, List.setIfInBounds_toArray, List.set_cons_zero, List.set_cons_succ, i64_w, i32_w]
                    rfl
                  refine pure_ (i := 8) (N := some 17) (v := ?_) (a' := ?_) #[true, true, true, true, true, true, true, true, true] rfl rfl (any_of HT_.out (by kernel_rfl)) (fun _ _ _ h => h) (Or.inl ⟨by rfl, ?_⟩) ?_ ?_
                  rotate_left
                  · intro w'
                    go_simp
                    with_reducible rfl
                  rotate_left
                  · simp only [Act.put, List.setIfInBounds_toArray, List.set_cons_zero, List.set_cons_succ, i64_w, i32_w]
                    rfl
                  refine done_ (done_of HT_.out (by kernel_rfl)) ?_
                  obtain ⟨i019, hi019, _, hsz19, _⟩ := info_parts info5
                  obtain ⟨hcut19, hA19, hC19⟩ := print_take_of (P := Tryd.prog) (Value.int .u8) 0 25 5 .i64 Tryd.underlying25 hi019 hsz19 A0 c0 l0 4 (by omega) (of_decide_eq_true (by first | (with_reducible assumption) | assumption)) HC0.out
                  have HR204 := Aside0.mk (Kd.C_of_reads (h1 := fun _ => rfl) (hA19 _ (Kd.reads_of_C HR0.out)))
                  have HC204 := Aside0.mk hC19
                  clear hA19 hC19 hi019 hsz19
                  have hcv20 : ∀ m_ : Nat, Sem.run Tryd.prog (convert 25 9 (Value.slice A0 (min 4 l0.length) c0)) (w16.drewN m_) = Result.ok (Value.string (strOfNums (List.take (Int.toNat 4) l0))) (w16.drewN m_) := fun m_ => by have h_ := Kd.C_string (P := Tryd.prog) (A := A0) (c := c0) Tryd.underlying25 Tryd.underlying5 Tryd.underlying9 (Kd.C_drewN (Kd.C_below HR204.out HB.out) m_); rw [show (List.take (Int.toNat 4) l0).length = min 4 l0.length from by rw [List.length_take]; rfl] at h_; exact h_
                  try go_wp2
                  (try (rw [drewN_self w16]; generalize hq_ : World.drewN w16 _ = w16; have n0_ : Aside0 (w16.heap[gb199]? = some (.cells #[.int .i64 0, .slice none 0 0] 24 (0, 0))) := ⟨by rw [← hq_]; exact (by (with_reducible repeat (first | refine blk_drewN ?_ _ | refine blk_drew ?_ | refine blk_alloc ?_ _)); exact BK199.out)⟩; have n1_ : Aside0 (Below w.heap.size w w16) := ⟨by rw [← hq_]; exact (by repeat (first | (with_reducible first | exact HB.out | apply below_alloc | apply pw_below_drewN | apply below_drew1 | refine below_set ?_ GE199.out) | exact HB.out))⟩; clear BK199 HB hq_; have BK199 := n0_; have HB := n1_; clear n0_ n1_))
                  have n0_ := Aside0.mk (blk_drew BK199.out)
                  have n1_ := Aside0.mk (below_drew1 HB.out)
                  clear BK199
                  clear HB
                  have BK199 := n0_
                  have HB := n1_
                  clear n0_ n1_
                  obtain ⟨i022, hi022, _, hsz22, _⟩ := info_parts info5
                  obtain ⟨A22, hcut22, hA22, hC22⟩ := print_mid_of (P := Tryd.prog) (Value.int .u8) 0 25 5 .i64 .i64 Tryd.underlying25 hi022 hsz22 A0 c0 l0 4 12 (by omega) (by first | omega | exact of_decide_eq_true (by first | (with_reducible assumption) | assumption)) (of_decide_eq_true (by first | (with_reducible assumption) | assumption)) HC0.out
                  have HR205 := Aside0.mk (Kd.C_of_reads (h1 := fun _ => rfl) (hA22 _ (Kd.reads_of_C HR0.out)))
                  have HC205 := Aside0.mk hC22
                  clear hA22 hC22 hi022 hsz22
                  have p207 : 0 ≤ (12 : Int) := (by omega)
                  have q207 : 12 < (l0.length : Int) := of_decide_eq_true (by first | (with_reducible assumption) | assumption)
                  obtain ⟨ad207, e207, hx207_0⟩ := Kd.at_int HR0.out 12 p207 q207
                  have hw207_0 := hx207_0
                  (try rw [show ((12 : Int)).toNat = 12 from rfl] at hw207_0)
                  (try rw [show 12 * 1 = 12 from rfl] at hw207_0)
                  (try simp only [Nat.reduceMul, Nat.reduceEqDiff, Go.Addr.add, ↓reduceIte] at hw207_0)
                  cases e207
                  (try simp only [show (12 : Int).toNat = 12 from rfl, Nat.reduceMul, Nat.reduceEqDiff, Go.Addr.add, ↓reduceIte] at hx207_0)
                  have qi207 : (12 < l0.length) = True := eq_true (by omega)
                  (try rw [show ((12 : Int)).toNat = 12 from rfl] at hx207_0)
                  replace hx207_0 := (HB.out.cell (World.block_lt_of_cell? w _ hx207_0)).trans hx207_0
                  replace p207 := eq_true p207
                  replace q207 := eq_true q207
                  refine start_ (n := 9) (S := fun w' => w'.cell? ⟨ad207.block, ad207.off + 12, none⟩ = some (.int .u8 (rd l0 12))) (ds := []) #[false, false, false, false, false, false, false, false, false] (by kernel_rfl) rfl rfl (((HB.out.cell (World.block_lt_of_cell? w _ hw207_0)).trans hw207_0)) (fun hHeld => ?_); refine with_tabW undercroftref13_Open.tab7 undercroftref13_Open.bits7 (fun HT_ HW_ => ?_)
                  generalize w16.drew = w21 at BK199 HB HR205 hx207_0 hHeld ⊢
                  refine pure_ (i := 0) (N := some 33) (v := ?_) (a' := ?_) #[true, false, false, false, false, false, false, false, false] rfl rfl (any_of HT_.out (by kernel_rfl)) (fun _ _ _ h => h) (Or.inl ⟨by rfl, ?_⟩) ?_ ?_
                  rotate_left
                  · intro w'
                    go_simp
                    with_reducible rfl
                  rotate_left
                  · simp only [Act.put, List.setIfInBounds_toArray, List.set_cons_zero, List.set_cons_succ, i64_w, i32_w]
                    rfl
                  refine pure_ (i := 1) (N := some 34) (v := ?_) (a' := ?_) #[true, true, false, false, false, false, false, false, false] rfl rfl (any_of HT_.out (by kernel_rfl)) (fun _ _ _ h => h) (Or.inl ⟨by rfl, ?_⟩) ?_ ?_
                  rotate_left
                  · intro w'
                    go_simp
                    with_reducible rfl
                  rotate_left
                  · simp only [Act.put, List.setIfInBounds_toArray, List.set_cons_zero, List.set_cons_succ, i64_w, i32_w]
                    rfl
                  refine pure_ (i := 3) (N := some 36) (v := ?_) (a' := ?_) #[true, true, false, true, false, false, false, false, false] rfl rfl (any_of HT_.out (by kernel_rfl)) (fun _ _ _ h => h) (Or.inl ⟨by rfl, ?_⟩) ?_ ?_
                  rotate_left
                  · intro w'
                    go_simp
                    with_reducible rfl
                  rotate_left
                  · simp only [Act.put, List.setIfInBounds_toArray, List.set_cons_zero, List.set_cons_succ, i64_w, i32_w]
                    rfl
                  refine pure_ (i := 4) (N := some 37) (v := ?_) (a' := ?_) #[true, true, false, true, true, false, false, false, false] rfl rfl (any_of HT_.out (by kernel_rfl)) (fun _ _ _ h => h) (Or.inl ⟨by rfl, ?_⟩) ?_ ?_
                  rotate_left
                  · intro w'
                    go_simp
                    with_reducible rfl
                  rotate_left
                  · simp only [Act.put, List.setIfInBounds_toArray, List.set_cons_zero, List.set_cons_succ, i64_w, i32_w]
                    rfl
                  refine take_ (i := 5) (N := some 38) (v := ?_) (a' := ?_) #[true, true, false, true, true, true, false, false, false] rfl rfl (take_ofW HT_.out HW_.out (by kernel_rfl)) (fun _ _ _ h => h) (Or.inl ⟨by rfl, ?_⟩) hHeld ?_ ?_
                  rotate_left
                  · intro w' s0
                    go_simp
                    with_reducible rfl
                  rotate_left
                  · simp only [Act.put, List.setIfInBounds_toArray, List.set_cons_zero, List.set_cons_succ, i64_w, i32_w]
                    rfl
                  refine pure_ (i := 6) (N := some 39) (v := ?_) (a' := ?_) #[true, true, false, true, true, true, true, false, false] rfl rfl (any_of HT_.out (by kernel_rfl)) (fun _ _ _ h => h) (Or.inl ⟨by rfl, ?_⟩) ?_ ?_
                  rotate_left
                  · intro w'
                    go_simp
                    with_reducible rfl
                  rotate_left
                  · simp only [Act.put, List.setIfInBounds_toArray, List.set_cons_zero, List.set_cons_succ, i64_w, i32_w]
                    rfl
                  refine one_ (i := 2) (N := some 35) #[true, true, true, true, true, true, true, false, false] rfl rfl (one_of HT_.out (by kernel_rfl)) (by decide) (fun K hK => ?_)
                  refine goes_ Tryd.func37 (by kernel_rfl) rfl #[.slice A22 ((l0.take 12).drop 4).length (c0 - 4)] (by rfl) rfl rfl (by (try simp only [List.map_toArray, List.map_cons, List.map_nil]); first | done | (rw [show ((l0.take 12).drop 4).length = (12 - 4) from (by rw [List.length_drop, List.length_take]; have h_ : (12 : Int) ≤ (l0.length : Int) := of_decide_eq_true (by first | (with_reducible assumption) | assumption); omega)] <;> rfl) | rfl | (simp only [List.length_drop, List.length_take]; rfl)) ?_
                  with_reducible refine (undercroftref01_Number.calls k _ _ ((l0.take 12).drop 4) t206 _ ?side1 ?side2 A12.out).mono ?_
                  (case side1 => repeat (first | exact (Kd.C_below HR205.out HB.out) | (with_reducible refine Kd.C_alloc ?_ _) | (with_reducible refine Kd.C_drewN ?_ _) | (with_reducible refine Kd.C_drew ?_)))
                  (case side2 => exact HC205.out)
                  rintro e w' ⟨rfl, ⟨nd, rfl⟩⟩
                  refine ⟨_, rfl, ?_⟩
                  refine hK.out _ _ (((HB.out.cell (World.block_lt_of_cell? w _ hw207_0)).trans hw207_0)) (fun hHeld => ?_)
                  clear hK K
                  refine norm_ (a' := ?_) ?_ ?_
                  rotate_left
                  · show Act.put _ (some 35) _ = _
                    simp only [Act.put, List.setIfInBounds_toArray, List.set_cons_zero, List.set_cons_succ, i64_w, i32_w]
                    rfl
                  refine pure_ (i := 7) (N := some 4) (v := ?_) (a' := ?_) #[true, true, true, true, true, true, true, true, false] rfl rfl (any_of HT_.out (by kernel_rfl)) (fun _ _ _ h => h) (Or.inl ⟨by rfl, ?_⟩) ?_ ?_
                  rotate_left
                  · intro w'
                    go_simp
                    with_reducible rfl
                  rotate_left
                  · simp only [Act.put, List.setIfInBounds_toArray, List.set_cons_zero, List.set_cons_succ, i64_w, i32_w]
                    rfl
                  refine pure_ (i := 8) (N := some 5) (v := ?_) (a' := ?_) #[true, true, true, true, true, true, true, true, true] rfl rfl (any_of HT_.out (by kernel_rfl)) (fun _ _ _ h => h) (Or.inl ⟨by rfl, ?_⟩) ?_ ?_
                  rotate_left
                  · intro w'
                    go_simp
                    with_reducible rfl
                  rotate_left
                  · simp only [Act.put, List.setIfInBounds_toArray, List.set_cons_zero, List.set_cons_succ, i64_w, i32_w]
                    rfl
                  refine done_ (done_of HT_.out (by kernel_rfl)) ?_
                  go_upto_region 8 with (fail)
                  go_cut [53] (fun v53 wc => ∃ (kq : Nat) (x53_13 : Bool), v53 = .bool x53_13 ∧ Aside0 (undercroftref13_Open.j0 kq l0 t206 (wrap64 (rd l0 12)) x53_13 = some (r1, r2, r3)) ∧ Aside0 (kq ≤ k) ∧ Aside0 (wc.heap[gb199]? = some (.cells #[.int .i64 0, (.slice none 0 0)] 24 (0, 0))) ∧ Aside0 (Below w.heap.size w wc))
                  case first =>
                    have H := HC14.out
                    clear HC14
                    by_cases c23 : (wrap64 (rd l0 12)) < 1
                    · rw [if_pos c23] at H
                      have c23b0 : decide ((wrap64 (rd l0 12)) < 1) = true := decide_eq_true c23
                      clear c23
                      (first | rw [c23b0] | (simp only [i64_w, i32_w]; rw [c23b0]) | skip)
                      have H' := Aside0.mk H
                      clear H
                      go_wp2
                      go_meet
                      case rel => exact ⟨_, (true), (by first | rfl | (simp; done) | (simp [*]; done)), H', ⟨by first | omega | exact Nat.le_refl _⟩, ⟨by (with_reducible repeat (first | refine blk_drewN ?_ _ | refine blk_drew ?_ | refine blk_alloc ?_ _)); exact BK199.out⟩, ⟨by repeat (first | (with_reducible first | exact HB.out | apply below_alloc | apply pw_below_drewN | apply below_drew1 | refine below_set ?_ GE199.out) | exact HB.out)⟩⟩
                    · rw [if_neg c23] at H
                      have c23b0 : decide ((wrap64 (rd l0 12)) < 1) = false := decide_eq_false c23
                      clear c23
                      (first | rw [c23b0] | (simp only [i64_w, i32_w]; rw [c23b0]) | skip)
                      by_cases c24 : (wrap64 (rd l0 12)) > 8
                      · rw [if_pos c24] at H
                        have c24b0 : decide (8 < (wrap64 (rd l0 12))) = true := decide_eq_true c24
                        clear c24
                        have H' := Aside0.mk H
                        clear H
                        go_wp2
                        go_meet
                        case rel => exact ⟨_, (true), (by first | rfl | (simp; done) | (simp [*]; done)), H', ⟨by first | omega | exact Nat.le_refl _⟩, ⟨by (with_reducible repeat (first | refine blk_drewN ?_ _ | refine blk_drew ?_ | refine blk_alloc ?_ _)); exact BK199.out⟩, ⟨by repeat (first | (with_reducible first | exact HB.out | apply below_alloc | apply pw_below_drewN | apply below_drew1 | refine below_set ?_ GE199.out) | exact HB.out)⟩⟩
                      · rw [if_neg c24] at H
                        have c24b0 : decide (8 < (wrap64 (rd l0 12))) = false := decide_eq_false c24
                        clear c24
                        by_cases c25 : t206 < 1
                        · rw [if_pos c25] at H
                          have c25b0 : decide (t206 < 1) = true := decide_eq_true c25
                          clear c25
                          have H' := Aside0.mk H
                          clear H
                          go_wp2
                          go_meet
                          case rel => exact ⟨_, (true), (by first | rfl | (simp; done) | (simp [*]; done)), H', ⟨by first | omega | exact Nat.le_refl _⟩, ⟨by (with_reducible repeat (first | refine blk_drewN ?_ _ | refine blk_drew ?_ | refine blk_alloc ?_ _)); exact BK199.out⟩, ⟨by repeat (first | (with_reducible first | exact HB.out | apply below_alloc | apply pw_below_drewN | apply below_drew1 | refine below_set ?_ GE199.out) | exact HB.out)⟩⟩
                        · rw [if_neg c25] at H
                          have c25b0 : decide (t206 < 1) = false := decide_eq_false c25
                          clear c25
                          have H' := Aside0.mk H
                          clear H
                          go_wp2
                          go_meet
                          case rel => exact ⟨_, (decide (t206 > 1099511627776)), (by first | rfl | (simp; done) | (simp [*]; done)), H', ⟨by first | omega | exact Nat.le_refl _⟩, ⟨by (with_reducible repeat (first | refine blk_drewN ?_ _ | refine blk_drew ?_ | refine blk_alloc ?_ _)); exact BK199.out⟩, ⟨by repeat (first | (with_reducible first | exact HB.out | apply below_alloc | apply pw_below_drewN | apply below_drew1 | refine below_set ?_ GE199.out) | exact HB.out)⟩⟩
                  case rest =>
                    clear HC14
                    try clear c1
                    try clear c2
                    try clear c2b0
                    try clear c2b1
                    try clear p2
                    try clear q2
                    try clear hx2
                    try clear hcv2
                    try clear qi2
                    try clear c3
                    try clear c3b0
                    try clear c3b1
                    try clear c5
                    try clear c5b0
                    try clear p6
                    try clear c7
                    try clear c7b0
                    try clear c7b1
                    try clear c8
                    try clear c8b0
                    try clear c8b1
                    try clear c9
                    try clear c9b0
                    try clear c9b1
                    try clear c10
                    try clear c10b0
                    try clear c10b1
                    try clear c11
                    try clear c11b0
                    try clear c11b1
                    try clear c13
                    try clear c13b0
                    try clear c13b1
                    try clear c19
                    try clear p20
                    try clear q20
                    try clear hx20
                    try clear hcv20
                    try clear qi20
                    try clear c23
                    try clear c23b0
                    try clear c24
                    try clear c24b0
                    try clear c25
                    try clear c25b0
                    try clear hx207_0
                    try clear p207
                    try clear q207
                    obtain ⟨kq, x53_13, rfl, HA, HJ13, BK199, HB⟩ := hcut
                    cases kq with
                    | zero => exact absurd HA.out (by simp [undercroftref13_Open.j0])
                    | succ kj13 =>
                      have H := HA.out
                      clear HA
                      simp only [undercroftref13_Open.j0] at H
                      by_cases c26 : x53_13 = true
                      · subst c26
                        have H1 : (some (0, ([] : List (S60)), 9)) = some (r1, r2, r3) := by rw [if_pos rfl] at H; exact H
                        clear H
                        have H := H1
                        clear H1
                        simp only [Option.some.injEq, Prod.mk.injEq] at H
                        obtain ⟨rfl, rfl, rfl⟩ := H
                        have hcz27_0 : wc.cell? ⟨gb199, 0, none⟩ = some (.int .i64 0) := (blk_cell BK199.out 0).trans rfl
                        have hcz27_1 : wc.cell? ⟨gb199, 1, none⟩ = some (.slice none 0 0) := (blk_cell BK199.out 1).trans rfl
                        have hfz27_0 := blk_frozen BK199.out 0
                        have hfz27_1 := blk_frozen BK199.out 1
                        go_wp2
                        refine bodyPost_ret (results_ct rfl _ _ gb199 24 #[.int .i64 0, .slice none 0 0] (0, 0) _ rfl (by (with_reducible repeat (first | refine blk_drewN ?_ _ | refine blk_drew ?_ | refine blk_alloc ?_ _)); refine blk_put (cs := #[.int .i64 0, .slice none 0 0]) ?_ 1 _ rfl; (with_reducible repeat (first | refine blk_drewN ?_ _ | refine blk_drew ?_ | refine blk_alloc ?_ _)); refine blk_put (cs := #[.int .i64 0, .slice none 0 0]) ?_ 0 _ rfl; (with_reducible repeat (first | refine blk_drewN ?_ _ | refine blk_drew ?_ | refine blk_alloc ?_ _)); exact BK199.out) Tryd.underlying24 rfl (by kernel_rfl)) rfl ?_
                        exact ⟨_, by first | rfl | (simp [errW_none, errW_some] <;> rfl) | (simp [*, errW_none, errW_some] <;> rfl) | (exfalso; simp only [beq_iff_eq, decide_eq_true_eq] at *; omega), by first | exact Kd.S_nil _ _ _ _ _ | exact Kd.N_nil _ _ _ _ _ | exact Kd.V_nil _ _ _ _ _ | exact Kd.Q_nil _ _ _ _ _ | exact Kd.R_nil _ _ _ _ _, by repeat (first | (with_reducible first | exact HB.out | apply below_alloc | apply pw_below_drewN | apply below_drew1 | refine below_set ?_ GE199.out) | exact HB.out)⟩
                      · replace c26 := Bool.eq_false_iff.mpr c26
                        subst c26
                        have H1 : (undercroftref13_Open.l0 kj13 l0 (wrap64 (rd l0 12)) (wrap64 (13 + (wrap64 (6 * (wrap64 (rd l0 12)))))) 0 (wrap64 (t206)) ([] : List (S60))) = some (r1, r2, r3) := by rw [if_neg (show ¬ (false = true) by decide)] at H; exact H
                        clear H
                        have H := H1
                        clear H1
                        have H' := Aside0.mk H
                        clear H
                        go_wp2_with (first | ((with_reducible refine gate_dst (N := 6) rfl ?_); refine box_event ?hg (N := 6) ?hd (cs := #[.int .i64 0, .slice none 0 0]) (t := 24) ?hr ?_; (case hd => rfl); (case hg => rfl); (case hr => first | (go_simp; done) | (go_simp; rfl)); intro gb208 hg w28 hbox hb; have n0_ := Aside0.mk (blk_below (g := gb199) (o := .cells #[.int .i64 0, .slice none 0 0] 24 (0, 0)) (by (with_reducible repeat (first | refine blk_drewN ?_ _ | refine blk_drew ?_ | refine blk_alloc ?_ _)); exact BK199.out) hb); have n1_ := Aside0.mk (below_step (by repeat (first | (with_reducible first | exact HB.out | apply below_alloc | apply pw_below_drewN | apply below_drew1 | refine below_set ?_ GE199.out) | exact HB.out)) hb); have n2_ := Aside0.mk (hbox); have n3_ := Aside0.mk ((by rw [hg]; exact (below_size (by repeat (first | (with_reducible first | exact HB.out | apply below_alloc | apply pw_below_drewN | apply below_drew1 | refine below_set ?_ GE199.out) | exact HB.out))) : w.heap.size ≤ gb208)); have n4_ := Aside0.mk ((by rw [hg]; exact (below_size (by repeat (first | (with_reducible first | exact HB.out | apply below_alloc | apply pw_below_drewN | apply below_drew1 | refine below_set ?_ GE199.out) | exact HB.out))) : w.heap.size ≤ gb208)); have n5_ := Aside0.mk ((by rw [hg]; exact Nat.ne_of_lt (blk_lt (g := gb199) (o := .cells #[.int .i64 0, .slice none 0 0] 24 (0, 0)) (by (with_reducible repeat (first | refine blk_drewN ?_ _ | refine blk_drew ?_ | refine blk_alloc ?_ _)); exact BK199.out)) : gb199 ≠ gb208)); have n6_ := Aside0.mk ((by rw [hg]; exact Nat.ne_of_gt (blk_lt (g := gb199) (o := .cells #[.int .i64 0, .slice none 0 0] 24 (0, 0)) (by (with_reducible repeat (first | refine blk_drewN ?_ _ | refine blk_drew ?_ | refine blk_alloc ?_ _)); exact BK199.out)) : gb208 ≠ gb199)); clear BK199; clear HB; have BK199 := n0_; have HB := n1_; have BK208 := n2_; have GW208 := n3_; have GE208 := n4_; have NB199_208 := n5_; have NB208_199 := n6_; clear n0_ n1_ n2_ n3_ n4_ n5_ n6_; clear hb hbox hg; have hnb29 := NB208_199.out; have hnc29 := NB199_208.out; have hcz30_0 : w28.cell? ⟨gb208, 0, none⟩ = some (.int .i64 0) := (blk_cell BK208.out 0).trans rfl; have hcz30_1 : w28.cell? ⟨gb208, 1, none⟩ = some (.slice none 0 0) := (blk_cell BK208.out 1).trans rfl; have hfz30_0 := blk_frozen BK208.out 0; have hfz30_1 := blk_frozen BK208.out 1))
                        go_loopg [7, 8] kj13 (fun kq v7 v8 w' => ∃ (x7_2 : Int) (x8_2 : Int) (x200000_2 : Int) (x209001_2 : List (S60)) (u209001 : Value), v7 = .int .i64 x7_2 ∧ v8 = .int .i64 x8_2 ∧ Aside0 (undercroftref13_Open.l0 kq l0 (wrap64 (rd l0 12)) x7_2 x8_2 (wrap64 (t206)) x209001_2 = some (r1, r2, r3)) ∧ Aside0 (kq ≤ kj13) ∧ Aside0 (Kd.S k60 60 w' w.heap.size (fun _ => True) u209001 x209001_2) ∧ Aside0 (w'.heap[gb199]? = some (.cells #[.int .i64 x200000_2, (.slice none 0 0)] 24 (0, 0))) ∧ Aside0 (w'.heap[gb208]? = some (.cells #[.int .i64 (wrap64 (t206)), u209001] 24 (0, 0))) ∧ Aside0 (Below w.heap.size w w'))
                        case atStart => exact ⟨(wrap64 (13 + (wrap64 (6 * (wrap64 (rd l0 12)))))), (0), (0), (([] : List (S60))), (.slice none 0 0), (by first | rfl | (simp; done) | (simp [*]; done)), (by first | rfl | (simp; done) | (simp [*]; done)), H', ⟨Nat.le_refl _⟩, ⟨by first | exact Kd.S_nil _ _ _ _ _ | exact Kd.N_nil _ _ _ _ _ | exact Kd.V_nil _ _ _ _ _ | exact Kd.Q_nil _ _ _ _ _ | exact Kd.R_nil _ _ _ _ _⟩, ⟨by (with_reducible repeat (first | refine blk_drewN ?_ _ | refine blk_drew ?_ | refine blk_alloc ?_ _)); refine blk_far ?_ NB199_208.out _; (with_reducible repeat (first | refine blk_drewN ?_ _ | refine blk_drew ?_ | refine blk_alloc ?_ _)); refine blk_far ?_ NB199_208.out _; (with_reducible repeat (first | refine blk_drewN ?_ _ | refine blk_drew ?_ | refine blk_alloc ?_ _)); exact BK199.out⟩, ⟨by (with_reducible repeat (first | refine blk_drewN ?_ _ | refine blk_drew ?_ | refine blk_alloc ?_ _)); refine blk_put (cs := #[.int .i64 (wrap64 (t206)), .slice none 0 0]) ?_ 1 _ rfl; (with_reducible repeat (first | refine blk_drewN ?_ _ | refine blk_drew ?_ | refine blk_alloc ?_ _)); refine blk_put (cs := #[.int .i64 0, .slice none 0 0]) ?_ 0 _ rfl; (with_reducible repeat (first | refine blk_drewN ?_ _ | refine blk_drew ?_ | refine blk_alloc ?_ _)); exact BK208.out⟩, ⟨by repeat (first | (with_reducible first | exact HB.out | apply below_alloc | apply pw_below_drewN | apply below_drew1 | refine below_set ?_ GE199.out | refine below_set ?_ GE208.out) | exact HB.out)⟩⟩
                        case round =>
                          clear H'
                          try clear c1
                          try clear c2
                          try clear c2b0
                          try clear c2b1
                          try clear p2
                          try clear q2
                          try clear hx2
                          try clear hcv2
                          try clear qi2
                          try clear c3
                          try clear c3b0
                          try clear c3b1
                          try clear c5
                          try clear c5b0
                          try clear p6
                          try clear c7
                          try clear c7b0
                          try clear c7b1
                          try clear c8
                          try clear c8b0
                          try clear c8b1
                          try clear c9
                          try clear c9b0
                          try clear c9b1
                          try clear c10
                          try clear c10b0
                          try clear c10b1
                          try clear c11
                          try clear c11b0
                          try clear c11b1
                          try clear c13
                          try clear c13b0
                          try clear c13b1
                          try clear c19
                          try clear p20
                          try clear q20
                          try clear hx20
                          try clear hcv20
                          try clear qi20
                          try clear c23
                          try clear c23b0
                          try clear c24
                          try clear c24b0
                          try clear c25
                          try clear c25b0
                          try clear c26
                          try clear c29
                          try clear hcz27_0
                          try clear hcz27_1
                          try clear hcz30_0
                          try clear hcz30_1
                          try clear hfz27_0
                          try clear hfz27_1
                          try clear hfz30_0
                          try clear hfz30_1
                          try clear hx207_0
                          try clear p2
                          try clear p20
                          try clear p207
                          try clear p6
                          try clear q2
                          try clear q20
                          try clear q207
                          obtain ⟨x7_2, x8_2, x200000_2, x209001_2, u209001, rfl, rfl, HA, HK2, HO_209001, BK199, BK208, HB⟩ := hrel
                          cases gk with
                          | zero => exact absurd HA.out (by simp [undercroftref13_Open.l0])
                          | succ k2 =>
                            have H := HA.out
                            clear HA
                            simp only [undercroftref13_Open.l0] at H
                            by_cases c31 : x8_2 < (wrap64 (rd l0 12))
                            · rw [if_pos c31] at H
                              have c31b0 : decide (x8_2 < (wrap64 (rd l0 12))) = true := decide_eq_true c31
                              clear c31
                              obtain ⟨ji32, hji32⟩ : ∃ j_ : Int, (wrap64 (13 + (wrap64 (6 * x8_2)))) = j_ := ⟨_, rfl⟩
                              replace H : (if 0 ≤ (ji32) then (if (ji32) ≤ (wrap64 (19 + (wrap64 (6 * x8_2)))) then (if (wrap64 (19 + (wrap64 (6 * x8_2)))) ≤ (l0.length : Int) then (if 5 < (((l0.take ((wrap64 (19 + (wrap64 (6 * x8_2)))) : Int).toNat).drop ((ji32) : Int).toNat).length : Int) then (if (wrap64 (rd ((l0.take ((wrap64 (19 + (wrap64 (6 * x8_2)))) : Int).toNat).drop ((ji32) : Int).toNat) 5)) > 32 then (some (0, ([] : List (S60)), 9)) else (if 4 ≤ (((l0.take ((wrap64 (19 + (wrap64 (6 * x8_2)))) : Int).toNat).drop ((ji32) : Int).toNat).length : Int) then ((undercroftref01_Number.f k2 (((l0.take ((wrap64 (19 + (wrap64 (6 * x8_2)))) : Int).toNat).drop ((ji32) : Int).toNat).take 4)).bind fun t212 => (if 4 < (((l0.take ((wrap64 (19 + (wrap64 (6 * x8_2)))) : Int).toNat).drop ((ji32) : Int).toNat).length : Int) then (if 0 ≤ x7_2 then (if x7_2 ≤ (wrap64 (x7_2 + (wrap64 (rd ((l0.take ((wrap64 (19 + (wrap64 (6 * x8_2)))) : Int).toNat).drop ((ji32) : Int).toNat) 5)))) then (if (wrap64 (x7_2 + (wrap64 (rd ((l0.take ((wrap64 (19 + (wrap64 (6 * x8_2)))) : Int).toNat).drop ((ji32) : Int).toNat) 5)))) ≤ (l0.length : Int) then ((undercroftref02_Copied.f ((l0.take ((wrap64 (x7_2 + (wrap64 (rd ((l0.take ((wrap64 (19 + (wrap64 (6 * x8_2)))) : Int).toNat).drop ((ji32) : Int).toNat) 5)))) : Int).toNat).drop (x7_2 : Int).toNat)).bind fun t215 => (if x209001_2.length < 3518437208883 then (undercroftref13_Open.l0 k2 l0 (wrap64 (rd l0 12)) (wrap64 (x7_2 + (wrap64 (rd ((l0.take ((wrap64 (19 + (wrap64 (6 * x8_2)))) : Int).toNat).drop ((ji32) : Int).toNat) 5)))) (wrap64 (x8_2 + 1)) (wrap64 (t206)) (x209001_2 ++ [(⟨wrap64 (t212), wrap64 (rd ((l0.take ((wrap64 (19 + (wrap64 (6 * x8_2)))) : Int).toNat).drop ((ji32) : Int).toNat) 4), t215⟩ : S60)])) else (none))) else (none)) else (none)) else (none)) else (none))) else (none))) else (none)) else (none)) else (none)) else (none)) = some (r1, r2, r3) := by first | (rw [hji32] at H; exact H) | (simp only [hji32] at H ⊢; exact H)
                              have hji32w : (IntKind.i64.wrap (13 + (wrap64 (6 * x8_2)))) = ji32 := (i64_w _).trans hji32
                              by_cases c33 : 0 ≤ (ji32)
                              · rw [if_pos c33] at H
                                have c33b0 := eq_true c33
                                have c33b1 : decide (0 ≤ (ji32)) = true := decide_eq_true c33
                                clear c33
                                by_cases c34 : (ji32) ≤ (wrap64 (19 + (wrap64 (6 * x8_2))))
                                · rw [if_pos c34] at H
                                  have c34b0 := eq_true c34
                                  have c34b1 : decide ((ji32) ≤ (wrap64 (19 + (wrap64 (6 * x8_2))))) = true := decide_eq_true c34
                                  by_cases c35 : (wrap64 (19 + (wrap64 (6 * x8_2)))) ≤ (l0.length : Int)
                                  · rw [if_pos c35] at H
                                    have c35b0 := eq_true c35
                                    have c35b1 : decide ((wrap64 (19 + (wrap64 (6 * x8_2)))) ≤ (l0.length : Int)) = true := decide_eq_true c35
                                    by_cases c36 : 5 < (((l0.take ((wrap64 (19 + (wrap64 (6 * x8_2)))) : Int).toNat).drop ((ji32) : Int).toNat).length : Int)
                                    · rw [if_pos c36] at H
                                      have c36c0 : ((5 : Int) < (((wrap64 (19 + (wrap64 (6 * x8_2)))).toNat - ji32.toNat : Nat) : Int)) = True := eq_true (by have h_ := c36; have h2_ := of_eq_true c35b0; rw [List.length_drop, List.length_take] at h_; omega)
                                      have c36c1 : (5 < (wrap64 (19 + (wrap64 (6 * x8_2)))).toNat - ji32.toNat) = True := eq_true (by have h_ := c36; have h2_ := of_eq_true c35b0; rw [List.length_drop, List.length_take] at h_; omega)
                                      have c36c2 : ((4 : Int) < (((wrap64 (19 + (wrap64 (6 * x8_2)))).toNat - ji32.toNat : Nat) : Int)) = True := eq_true (by have h_ := c36; have h2_ := of_eq_true c35b0; have h3_ := HC0.out; rw [List.length_drop, List.length_take] at h_; omega)
                                      have c36c3 : (4 < (wrap64 (19 + (wrap64 (6 * x8_2)))).toNat - ji32.toNat) = True := eq_true (by have h_ := c36; have h2_ := of_eq_true c35b0; have h3_ := HC0.out; rw [List.length_drop, List.length_take] at h_; omega)
                                      have c36c4 : ((4 : Int) ≤ ((c0 - ji32.toNat : Nat) : Int)) = True := eq_true (by have h_ := c36; have h2_ := of_eq_true c35b0; have h3_ := HC0.out; rw [List.length_drop, List.length_take] at h_; omega)
                                      have c36c5 : (4 ≤ c0 - ji32.toNat) = True := eq_true (by have h_ := c36; have h2_ := of_eq_true c35b0; have h3_ := HC0.out; rw [List.length_drop, List.length_take] at h_; omega)
                                      have c36b0 : decide (5 < (((l0.take ((wrap64 (19 + (wrap64 (6 * x8_2)))) : Int).toNat).drop ((ji32) : Int).toNat).length : Int)) = true := decide_eq_true c36
                                      have c36b1 : decide (5 < ((l0.take ((wrap64 (19 + (wrap64 (6 * x8_2)))) : Int).toNat).drop ((ji32) : Int).toNat).length) = true := decide_eq_true (by omega)
                                      clear c36
                                      by_cases c37 : (wrap64 (rd ((l0.take ((wrap64 (19 + (wrap64 (6 * x8_2)))) : Int).toNat).drop ((ji32) : Int).toNat) 5)) > 32
                                      · rw [if_pos c37] at H
                                        have c37b0 : decide (32 < (wrap64 (rd ((l0.take ((wrap64 (19 + (wrap64 (6 * x8_2)))) : Int).toNat).drop ((ji32) : Int).toNat) 5))) = true := decide_eq_true c37
                                        clear c37
                                        simp only [Option.some.injEq, Prod.mk.injEq] at H
                                        obtain ⟨rfl, rfl, rfl⟩ := H
                                        obtain ⟨i038, hi038, _, hsz38, _⟩ := info_parts info5
                                        obtain ⟨A38, hcut38, hA38, hC38⟩ := print_mid_of (P := Tryd.prog) (Value.int .u8) 0 25 5 .i64 .i64 Tryd.underlying25 hi038 hsz38 (some ad207) c0 l0 (ji32) (wrap64 (19 + (wrap64 (6 * x8_2)))) (of_decide_eq_true (by first | (with_reducible assumption) | assumption)) (by first | omega | exact of_decide_eq_true (by first | (with_reducible assumption) | assumption)) (of_decide_eq_true (by first | (with_reducible assumption) | assumption)) HC0.out
                                        have HR209 := Aside0.mk (Kd.C_of_reads (h1 := fun _ => rfl) (hA38 _ (Kd.reads_of_C HR0.out)))
                                        have HC209 := Aside0.mk hC38
                                        clear hA38 hC38 hi038 hsz38
                                        have p210 : 0 ≤ (5 : Int) := (by omega)
                                        have q210 : 5 < (((l0.take ((wrap64 (19 + (wrap64 (6 * x8_2)))) : Int).toNat).drop ((ji32) : Int).toNat).length : Int) := of_decide_eq_true (by first | (with_reducible assumption) | assumption)
                                        obtain ⟨ad210, e210, hx210_0⟩ := Kd.at_int HR209.out 5 p210 q210
                                        cases e210
                                        (try simp only [show (5 : Int).toNat = 5 from rfl, Nat.reduceMul, Nat.reduceEqDiff, Go.Addr.add, ↓reduceIte] at hx210_0)
                                        have qi210 : (5 < ((l0.take ((wrap64 (19 + (wrap64 (6 * x8_2)))) : Int).toNat).drop ((ji32) : Int).toNat).length) = True := eq_true (by omega)
                                        (try rw [show ((5 : Int)).toNat = 5 from rfl] at hx210_0)
                                        replace hx210_0 := (HB.out.cell (World.block_lt_of_cell? w _ hx210_0)).trans hx210_0
                                        replace p210 := eq_true p210
                                        replace q210 := eq_true q210
                                        have hnb39 := NB199_208.out
                                        have hnc39 := NB208_199.out
                                        have hcz40_0 : wr.cell? ⟨gb199, 0, none⟩ = some (.int .i64 x200000_2) := (blk_cell BK199.out 0).trans rfl
                                        have hcz40_1 : wr.cell? ⟨gb199, 1, none⟩ = some (.slice none 0 0) := (blk_cell BK199.out 1).trans rfl
                                        have hfz40_0 := blk_frozen BK199.out 0
                                        have hfz40_1 := blk_frozen BK199.out 1
                                        go_wp2
                                        refine bodyPost_ret (results_ct rfl _ _ gb199 24 #[.int .i64 0, .slice none 0 0] (0, 0) _ rfl (by (with_reducible repeat (first | refine blk_drewN ?_ _ | refine blk_drew ?_ | refine blk_alloc ?_ _)); refine blk_put (cs := #[.int .i64 0, .slice none 0 0]) ?_ 1 _ rfl; (with_reducible repeat (first | refine blk_drewN ?_ _ | refine blk_drew ?_ | refine blk_alloc ?_ _)); refine blk_put (cs := #[.int .i64 x200000_2, .slice none 0 0]) ?_ 0 _ rfl; (with_reducible repeat (first | refine blk_drewN ?_ _ | refine blk_drew ?_ | refine blk_alloc ?_ _)); exact BK199.out) Tryd.underlying24 rfl (by kernel_rfl)) rfl ?_
                                        exact ⟨_, by first | rfl | (simp [errW_none, errW_some] <;> rfl) | (simp only [← hji32]; first | rfl | (simp [errW_none, errW_some] <;> rfl)) | (simp [*, errW_none, errW_some] <;> rfl) | (exfalso; simp only [beq_iff_eq, decide_eq_true_eq] at *; omega), by first | exact Kd.S_nil _ _ _ _ _ | exact Kd.N_nil _ _ _ _ _ | exact Kd.V_nil _ _ _ _ _ | exact Kd.Q_nil _ _ _ _ _ | exact Kd.R_nil _ _ _ _ _, by repeat (first | (with_reducible first | exact HB.out | apply below_alloc | apply pw_below_drewN | apply below_drew1 | refine below_set ?_ GE199.out | refine below_set ?_ GE208.out) | exact HB.out)⟩
                                      · rw [if_neg c37] at H
                                        have c37b0 : decide (32 < (wrap64 (rd ((l0.take ((wrap64 (19 + (wrap64 (6 * x8_2)))) : Int).toNat).drop ((ji32) : Int).toNat) 5))) = false := decide_eq_false c37
                                        clear c37
                                        by_cases c41 : 4 ≤ (((l0.take ((wrap64 (19 + (wrap64 (6 * x8_2)))) : Int).toNat).drop ((ji32) : Int).toNat).length : Int)
                                        · rw [if_pos c41] at H
                                          have c41b0 := eq_true c41
                                          have c41b1 : decide (4 ≤ (((l0.take ((wrap64 (19 + (wrap64 (6 * x8_2)))) : Int).toNat).drop ((ji32) : Int).toNat).length : Int)) = true := decide_eq_true c41
                                          replace H := Option.bind_eq_some_iff.mp H
                                          obtain ⟨t212, A420, H⟩ := H
                                          replace H : (if 4 < (((l0.take ((wrap64 (19 + (wrap64 (6 * x8_2)))) : Int).toNat).drop ((ji32) : Int).toNat).length : Int) then (if 0 ≤ x7_2 then (if x7_2 ≤ (wrap64 (x7_2 + (wrap64 (rd ((l0.take ((wrap64 (19 + (wrap64 (6 * x8_2)))) : Int).toNat).drop ((ji32) : Int).toNat) 5)))) then (if (wrap64 (x7_2 + (wrap64 (rd ((l0.take ((wrap64 (19 + (wrap64 (6 * x8_2)))) : Int).toNat).drop ((ji32) : Int).toNat) 5)))) ≤ (l0.length : Int) then ((undercroftref02_Copied.f ((l0.take ((wrap64 (x7_2 + (wrap64 (rd ((l0.take ((wrap64 (19 + (wrap64 (6 * x8_2)))) : Int).toNat).drop ((ji32) : Int).toNat) 5)))) : Int).toNat).drop (x7_2 : Int).toNat)).bind fun t215 => (if x209001_2.length < 3518437208883 then (undercroftref13_Open.l0 k2 l0 (wrap64 (rd l0 12)) (wrap64 (x7_2 + (wrap64 (rd ((l0.take ((wrap64 (19 + (wrap64 (6 * x8_2)))) : Int).toNat).drop ((ji32) : Int).toNat) 5)))) (wrap64 (x8_2 + 1)) (wrap64 (t206)) (x209001_2 ++ [(⟨wrap64 (t212), wrap64 (rd ((l0.take ((wrap64 (19 + (wrap64 (6 * x8_2)))) : Int).toNat).drop ((ji32) : Int).toNat) 4), t215⟩ : S60)])) else (none))) else (none)) else (none)) else (none)) else (none)) = some (r1, r2, r3) := H
                                          have A42 := Aside0.mk A420
                                          clear A420
                                          by_cases c43 : 4 < (((l0.take ((wrap64 (19 + (wrap64 (6 * x8_2)))) : Int).toNat).drop ((ji32) : Int).toNat).length : Int)
                                          · rw [if_pos c43] at H
                                            have c43b0 : decide (4 < (((l0.take ((wrap64 (19 + (wrap64 (6 * x8_2)))) : Int).toNat).drop ((ji32) : Int).toNat).length : Int)) = true := decide_eq_true c43
                                            have c43b1 : decide (4 < ((l0.take ((wrap64 (19 + (wrap64 (6 * x8_2)))) : Int).toNat).drop ((ji32) : Int).toNat).length) = true := decide_eq_true (by omega)
                                            clear c43
                                            by_cases c44 : 0 ≤ x7_2
                                            · rw [if_pos c44] at H
                                              have c44b0 := eq_true c44
                                              have c44b1 : decide (0 ≤ x7_2) = true := decide_eq_true c44
                                              clear c44
                                              by_cases c45 : x7_2 ≤ (wrap64 (x7_2 + (wrap64 (rd ((l0.take ((wrap64 (19 + (wrap64 (6 * x8_2)))) : Int).toNat).drop ((ji32) : Int).toNat) 5))))
                                              · rw [if_pos c45] at H
                                                have c45b0 := eq_true c45
                                                have c45b1 : decide (x7_2 ≤ (wrap64 (x7_2 + (wrap64 (rd ((l0.take ((wrap64 (19 + (wrap64 (6 * x8_2)))) : Int).toNat).drop ((ji32) : Int).toNat) 5))))) = true := decide_eq_true c45
                                                by_cases c46 : (wrap64 (x7_2 + (wrap64 (rd ((l0.take ((wrap64 (19 + (wrap64 (6 * x8_2)))) : Int).toNat).drop ((ji32) : Int).toNat) 5)))) ≤ (l0.length : Int)
                                                · rw [if_pos c46] at H
                                                  have c46b0 := eq_true c46
                                                  have c46b1 : decide ((wrap64 (x7_2 + (wrap64 (rd ((l0.take ((wrap64 (19 + (wrap64 (6 * x8_2)))) : Int).toNat).drop ((ji32) : Int).toNat) 5)))) ≤ (l0.length : Int)) = true := decide_eq_true c46
                                                  replace H := Option.bind_eq_some_iff.mp H
                                                  obtain ⟨t215, A470, H⟩ := H
                                                  replace H : (if x209001_2.length < 3518437208883 then (undercroftref13_Open.l0 k2 l0 (wrap64 (rd l0 12)) (wrap64 (x7_2 + (wrap64 (rd ((l0.take ((wrap64 (19 + (wrap64 (6 * x8_2)))) : Int).toNat).drop ((ji32) : Int).toNat) 5)))) (wrap64 (x8_2 + 1)) (wrap64 (t206)) (x209001_2 ++ [(⟨wrap64 (t212), wrap64 (rd ((l0.take ((wrap64 (19 + (wrap64 (6 * x8_2)))) : Int).toNat).drop ((ji32) : Int).toNat) 4), t215⟩ : S60)])) else (none)) = some (r1, r2, r3) := H
                                                  have A47 := Aside0.mk A470
                                                  clear A470
                                                  by_cases c48 : x209001_2.length < 3518437208883
                                                  · rw [if_pos c48] at H
                                                    have LMc48 := Aside0.mk c48
                                                    clear c48
                                                    obtain ⟨y218, hy218⟩ : ∃ y_ : List (S60), y_ = (x209001_2 ++ [(⟨wrap64 (t212), wrap64 (rd ((l0.take ((wrap64 (19 + (wrap64 (6 * x8_2)))) : Int).toNat).drop ((ji32) : Int).toNat) 4), t215⟩ : S60)]) := ⟨_, rfl⟩
                                                    replace H : (undercroftref13_Open.l0 k2 l0 (wrap64 (rd l0 12)) (wrap64 (x7_2 + (wrap64 (rd ((l0.take ((wrap64 (19 + (wrap64 (6 * x8_2)))) : Int).toNat).drop ((ji32) : Int).toNat) 5)))) (wrap64 (x8_2 + 1)) (wrap64 (t206)) y218) = some (r1, r2, r3) := by first | (rw [hy218]; with_reducible exact H) | (have H2_ := (Option.bind_some _ _).symm.trans H; rw [hy218]; with_reducible exact H2_) | (have H2_ := (Option.bind_some _ _).symm.trans H; with_reducible exact H2_) | with_reducible exact H | (rw [hy218]; exact H) | exact H
                                                    have Ny218 := Aside0.mk hy218
                                                    clear hy218
                                                    have H' := Aside0.mk H
                                                    clear H
                                                    obtain ⟨i049, hi049, _, hsz49, _⟩ := info_parts info5
                                                    obtain ⟨A49, hcut49, hA49, hC49⟩ := print_mid_of (P := Tryd.prog) (Value.int .u8) 0 25 5 .i64 .i64 Tryd.underlying25 hi049 hsz49 (some ad207) c0 l0 (ji32) (wrap64 (19 + (wrap64 (6 * x8_2)))) (of_decide_eq_true (by first | (with_reducible assumption) | assumption)) (by first | omega | exact of_decide_eq_true (by first | (with_reducible assumption) | assumption)) (of_decide_eq_true (by first | (with_reducible assumption) | assumption)) HC0.out
                                                    have HR209 := Aside0.mk (Kd.C_of_reads (h1 := fun _ => rfl) (hA49 _ (Kd.reads_of_C HR0.out)))
                                                    have HC209 := Aside0.mk hC49
                                                    clear hA49 hC49 hi049 hsz49
                                                    have p210 : 0 ≤ (5 : Int) := (by omega)
                                                    have q210 : 5 < (((l0.take ((wrap64 (19 + (wrap64 (6 * x8_2)))) : Int).toNat).drop ((ji32) : Int).toNat).length : Int) := of_decide_eq_true (by first | (with_reducible assumption) | assumption)
                                                    obtain ⟨ad210, e210, hx210_0⟩ := Kd.at_int HR209.out 5 p210 q210
                                                    cases e210
                                                    (try simp only [show (5 : Int).toNat = 5 from rfl, Nat.reduceMul, Nat.reduceEqDiff, Go.Addr.add, ↓reduceIte] at hx210_0)
                                                    have qi210 : (5 < ((l0.take ((wrap64 (19 + (wrap64 (6 * x8_2)))) : Int).toNat).drop ((ji32) : Int).toNat).length) = True := eq_true (by omega)
                                                    (try rw [show ((5 : Int)).toNat = 5 from rfl] at hx210_0)
                                                    replace hx210_0 := (HB.out.cell (World.block_lt_of_cell? w _ hx210_0)).trans hx210_0
                                                    replace p210 := eq_true p210
                                                    replace q210 := eq_true q210
                                                    try go_wp2
                                                    have n0_ := Aside0.mk (Kd.S_drew HO_209001.out)
                                                    have n1_ := Aside0.mk (blk_drew BK199.out)
                                                    have n2_ := Aside0.mk (blk_drew BK208.out)
                                                    have n3_ := Aside0.mk (below_drew1 HB.out)
                                                    clear HO_209001
                                                    clear BK199
                                                    clear BK208
                                                    clear HB
                                                    have HO_209001 := n0_
                                                    have BK199 := n1_
                                                    have BK208 := n2_
                                                    have HB := n3_
                                                    clear n0_ n1_ n2_ n3_
                                                    obtain ⟨i051, hi051, _, hsz51, _⟩ := info_parts info5
                                                    obtain ⟨hcut51, hA51, hC51⟩ := print_take_of (P := Tryd.prog) (Value.int .u8) 0 25 5 .i64 Tryd.underlying25 hi051 hsz51 (some ad210) (c0 - (ji32).toNat) ((l0.take ((wrap64 (19 + (wrap64 (6 * x8_2)))) : Int).toNat).drop ((ji32) : Int).toNat) 4 (by omega) (of_decide_eq_true (by first | (with_reducible assumption) | assumption)) HC209.out
                                                    have HR211 := Aside0.mk (Kd.C_of_reads (h1 := fun _ => rfl) (hA51 _ (Kd.reads_of_C HR209.out)))
                                                    have HC211 := Aside0.mk hC51
                                                    clear hA51 hC51 hi051 hsz51
                                                    have p213 : 0 ≤ (4 : Int) := (by omega)
                                                    have q213 : 4 < (((l0.take ((wrap64 (19 + (wrap64 (6 * x8_2)))) : Int).toNat).drop ((ji32) : Int).toNat).length : Int) := of_decide_eq_true (by first | (with_reducible assumption) | assumption)
                                                    obtain ⟨ad213, e213, hx213_0⟩ := Kd.at_int HR209.out 4 p213 q213
                                                    have hw213_0 := hx213_0
                                                    (try rw [show ((4 : Int)).toNat = 4 from rfl] at hw213_0)
                                                    (try rw [show 4 * 1 = 4 from rfl] at hw213_0)
                                                    (try simp only [Nat.reduceMul, Nat.reduceEqDiff, Go.Addr.add, ↓reduceIte] at hw213_0)
                                                    obtain rfl : ad210 = ad213 := (by injection e213)
                                                    (try simp only [show (4 : Int).toNat = 4 from rfl, Nat.reduceMul, Nat.reduceEqDiff, Go.Addr.add, ↓reduceIte] at hx213_0)
                                                    have qi213 : (4 < ((l0.take ((wrap64 (19 + (wrap64 (6 * x8_2)))) : Int).toNat).drop ((ji32) : Int).toNat).length) = True := eq_true (by omega)
                                                    (try rw [show ((4 : Int)).toNat = 4 from rfl] at hx213_0)
                                                    replace hx213_0 := (HB.out.cell (World.block_lt_of_cell? w _ hx213_0)).trans hx213_0
                                                    replace p213 := eq_true p213
                                                    replace q213 := eq_true q213
                                                    obtain ⟨i052, hi052, _, hsz52, _⟩ := info_parts info5
                                                    obtain ⟨A52, hcut52, hA52, hC52⟩ := print_mid_of (P := Tryd.prog) (Value.int .u8) 0 25 5 .i64 .i64 Tryd.underlying25 hi052 hsz52 (some ad207) c0 l0 x7_2 (wrap64 (x7_2 + (wrap64 (rd ((l0.take ((wrap64 (19 + (wrap64 (6 * x8_2)))) : Int).toNat).drop ((ji32) : Int).toNat) 5)))) (of_decide_eq_true (by first | (with_reducible assumption) | assumption)) (by first | omega | exact of_decide_eq_true (by first | (with_reducible assumption) | assumption)) (of_decide_eq_true (by first | (with_reducible assumption) | assumption)) HC0.out
                                                    have HR214 := Aside0.mk (Kd.C_of_reads (h1 := fun _ => rfl) (hA52 _ (Kd.reads_of_C HR0.out)))
                                                    have HC214 := Aside0.mk hC52
                                                    clear hA52 hC52 hi052 hsz52
                                                    refine start_ (n := 22) (S := fun w' => w'.cell? ⟨gb208, 0, none⟩ = some (.int .i64 (wrap64 (t206))) ∧ w'.cell? ⟨gb208, 1, none⟩ = some (u209001) ∧ w'.cell? ⟨ad210.block, ad210.off + 4, none⟩ = some (.int .u8 (rd ((l0.take ((wrap64 (19 + (wrap64 (6 * x8_2)))) : Int).toNat).drop ((ji32) : Int).toNat) 4))) (ds := [21]) #[false, false, false, false, false, false, false, false, false, false, false, false, false, false, false, false, false, false, false, false, false, false] (by kernel_rfl) rfl rfl ⟨(blk_cell BK208.out 0).trans rfl, (blk_cell BK208.out 1).trans rfl, ((HB.out.cell (World.block_lt_of_cell? w _ hw213_0)).trans hw213_0)⟩ (fun hHeld => ?_); refine with_tabW undercroftref13_Open.tab19 undercroftref13_Open.bits19 (fun HT_ HW_ => ?_)
                                                    generalize wr.drew = w50 at HO_209001 BK199 BK208 HB HR211 HR214 hx213_0 hHeld ⊢
                                                    refine pure_ (i := 0) (N := some 81) (v := ?_) (a' := ?_) #[true, false, false, false, false, false, false, false, false, false, false, false, false, false, false, false, false, false, false, false, false, false] rfl rfl (any_of HT_.out (by kernel_rfl)) (fun _ _ _ h => h) (Or.inl ⟨by rfl, ?_⟩) ?_ ?_
                                                    rotate_left
                                                    · intro w'
                                                      go_simp
                                                      with_reducible rfl
                                                    rotate_left
                                                    · simp only [Act.put, List.setIfInBounds_toArray, List.set_cons_zero, List.set_cons_succ, i64_w, i32_w]
                                                      rfl
                                                    refine pure_ (i := 2) (N := some 83) (v := ?_) (a' := ?_) #[true, false, true, false, false, false, false, false, false, false, false, false, false, false, false, false, false, false, false, false, false, false] rfl rfl (any_of HT_.out (by kernel_rfl)) (fun _ _ _ h => h) (Or.inl ⟨by rfl, ?_⟩) ?_ ?_
                                                    rotate_left
                                                    · intro w'
                                                      go_simp
                                                      with_reducible rfl
                                                    rotate_left
                                                    · simp only [Act.put, List.setIfInBounds_toArray, List.set_cons_zero, List.set_cons_succ, i64_w, i32_w]
                                                      rfl
                                                    refine pure_ (i := 3) (N := some 84) (v := ?_) (a' := ?_) #[true, false, true, true, false, false, false, false, false, false, false, false, false, false, false, false, false, false, false, false, false, false] rfl rfl (any_of HT_.out (by kernel_rfl)) (fun _ _ _ h => h) (Or.inl ⟨by rfl, ?_⟩) ?_ ?_
                                                    rotate_left
                                                    · intro w'
                                                      go_simp
                                                      with_reducible rfl
                                                    rotate_left
                                                    · simp only [Act.put, List.setIfInBounds_toArray, List.set_cons_zero, List.set_cons_succ, i64_w, i32_w]
                                                      rfl
                                                    refine pure_ (i := 6) (N := some 87) (v := ?_) (a' := ?_) #[true, false, true, true, false, false, true, false, false, false, false, false, false, false, false, false, false, false, false, false, false, false] rfl rfl (any_of HT_.out (by kernel_rfl)) (fun _ _ _ h => h) (Or.inl ⟨by rfl, ?_⟩) ?_ ?_
                                                    rotate_left
                                                    · intro w'
                                                      go_simp
                                                      with_reducible rfl
                                                    rotate_left
                                                    · simp only [Act.put, List.setIfInBounds_toArray, List.set_cons_zero, List.set_cons_succ, i64_w, i32_w]
                                                      rfl
                                                    refine pure_ (i := 7) (N := some 88) (v := ?_) (a' := ?_) #[true, false, true, true, false, false, true, true, false, false, false, false, false, false, false, false, false, false, false, false, false, false] rfl rfl (any_of HT_.out (by kernel_rfl)) (fun _ _ _ h => h) (Or.inl ⟨by rfl, ?_⟩) ?_ ?_
                                                    rotate_left
                                                    · intro w'
                                                      go_simp
                                                      with_reducible rfl
                                                    rotate_left
                                                    · simp only [Act.put, List.setIfInBounds_toArray, List.set_cons_zero, List.set_cons_succ, i64_w, i32_w]
                                                      rfl
                                                    refine pure_ (i := 10) (N := some 91) (v := ?_) (a' := ?_) #[true, false, true, true, false, false, true, true, false, false, true, false, false, false, false, false, false, false, false, false, false, false] rfl rfl (any_of HT_.out (by kernel_rfl)) (fun _ _ _ h => h) (Or.inl ⟨by rfl, ?_⟩) ?_ ?_
                                                    rotate_left
                                                    · intro w'
                                                      go_simp
                                                      with_reducible rfl
                                                    rotate_left
                                                    · simp only [Act.put, List.setIfInBounds_toArray, List.set_cons_zero, List.set_cons_succ, i64_w, i32_w]
                                                      rfl
                                                    refine pure_ (i := 11) (N := some 92) (v := ?_) (a' := ?_) #[true, false, true, true, false, false, true, true, false, false, true, true, false, false, false, false, false, false, false, false, false, false] rfl rfl (any_of HT_.out (by kernel_rfl)) (fun _ _ _ h => h) (Or.inl ⟨by rfl, ?_⟩) ?_ ?_
                                                    rotate_left
                                                    · intro w'
                                                      go_simp
                                                      with_reducible rfl
                                                    rotate_left
                                                    · simp only [Act.put, List.setIfInBounds_toArray, List.set_cons_zero, List.set_cons_succ, i64_w, i32_w]
                                                      rfl
                                                    refine pure_ (i := 12) (N := some 93) (v := ?_) (a' := ?_) #[true, false, true, true, false, false, true, true, false, false, true, true, true, false, false, false, false, false, false, false, false, false] rfl rfl (any_of HT_.out (by kernel_rfl)) (fun _ _ _ h => h) (Or.inl ⟨by rfl, ?_⟩) ?_ ?_
                                                    rotate_left
                                                    · intro w'
                                                      go_simp
                                                      with_reducible rfl
                                                    rotate_left
                                                    · simp only [Act.put, List.setIfInBounds_toArray, List.set_cons_zero, List.set_cons_succ, i64_w, i32_w]
                                                      rfl
                                                    refine pure_ (i := 13) (N := some 94) (v := ?_) (a' := ?_) #[true, false, true, true, false, false, true, true, false, false, true, true, true, true, false, false, false, false, false, false, false, false] rfl rfl (any_of HT_.out (by kernel_rfl)) (fun _ _ _ h => h) (Or.inl ⟨by rfl, ?_⟩) ?_ ?_
                                                    rotate_left
                                                    · intro w'
                                                      go_simp
                                                      with_reducible rfl
                                                    rotate_left
                                                    · simp only [Act.put, List.setIfInBounds_toArray, List.set_cons_zero, List.set_cons_succ, i64_w, i32_w]
                                                      rfl
                                                    refine pure_ (i := 14) (N := some 95) (v := ?_) (a' := ?_) #[true, false, true, true, false, false, true, true, false, false, true, true, true, true, true, false, false, false, false, false, false, false] rfl rfl (any_of HT_.out (by kernel_rfl)) (fun _ _ _ h => h) (Or.inl ⟨by rfl, ?_⟩) ?_ ?_
                                                    rotate_left
                                                    · intro w'
                                                      go_simp
                                                      with_reducible rfl
                                                    rotate_left
                                                    · simp only [Act.put, List.setIfInBounds_toArray, List.set_cons_zero, List.set_cons_succ, i64_w, i32_w]
                                                      rfl
                                                    refine pure_ (i := 15) (N := some 96) (v := ?_) (a' := ?_) #[true, false, true, true, false, false, true, true, false, false, true, true, true, true, true, true, false, false, false, false, false, false] rfl rfl (any_of HT_.out (by kernel_rfl)) (fun _ _ _ h => h) (Or.inl ⟨by rfl, ?_⟩) ?_ ?_
                                                    rotate_left
                                                    · intro w'
                                                      go_simp
                                                      with_reducible rfl
                                                    rotate_left
                                                    · simp only [Act.put, List.setIfInBounds_toArray, List.set_cons_zero, List.set_cons_succ, i64_w, i32_w]
                                                      rfl
                                                    refine take_ (i := 1) (N := some 82) (v := ?_) (a' := ?_) #[true, true, true, true, false, false, true, true, false, false, true, true, true, true, true, true, false, false, false, false, false, false] rfl rfl (take_ofW HT_.out HW_.out (by kernel_rfl)) (fun _ _ _ h => h) (Or.inl ⟨by rfl, ?_⟩) hHeld ?_ ?_
                                                    rotate_left
                                                    · rintro w' ⟨s0, s1, s2⟩
                                                      go_simp
                                                      with_reducible rfl
                                                    rotate_left
                                                    · simp only [Act.put, List.setIfInBounds_toArray, List.set_cons_zero, List.set_cons_succ, i64_w, i32_w]
                                                      rfl
                                                    refine take_ (i := 8) (N := some 89) (v := ?_) (a' := ?_) #[true, true, true, true, false, false, true, true, true, false, true, true, true, true, true, true, false, false, false, false, false, false] rfl rfl (take_ofW HT_.out HW_.out (by kernel_rfl)) (fun _ _ _ h => h) (Or.inl ⟨by rfl, ?_⟩) hHeld ?_ ?_
                                                    rotate_left
                                                    · rintro w' ⟨s0, s1, s2⟩
                                                      go_simp
                                                      with_reducible rfl
                                                    rotate_left
                                                    · simp only [Act.put, List.setIfInBounds_toArray, List.set_cons_zero, List.set_cons_succ, i64_w, i32_w]
                                                      rfl
                                                    refine pure_ (i := 9) (N := some 90) (v := ?_) (a' := ?_) #[true, true, true, true, false, false, true, true, true, true, true, true, true, true, true, true, false, false, false, false, false, false] rfl rfl (any_of HT_.out (by kernel_rfl)) (fun _ _ _ h => h) (Or.inl ⟨by rfl, ?_⟩) ?_ ?_
                                                    rotate_left
                                                    · intro w'
                                                      go_simp
                                                      with_reducible rfl
                                                    rotate_left
                                                    · simp only [Act.put, List.setIfInBounds_toArray, List.set_cons_zero, List.set_cons_succ, i64_w, i32_w]
                                                      rfl
                                                    refine one_ (i := 4) (N := some 85) #[true, true, true, true, true, false, true, true, true, true, true, true, true, true, true, true, false, false, false, false, false, false] rfl rfl (one_of HT_.out (by kernel_rfl)) (by decide) (fun K hK => ?_)
                                                    refine goes_ Tryd.func37 (by kernel_rfl) rfl #[.slice (some ad210) (((l0.take ((wrap64 (19 + (wrap64 (6 * x8_2)))) : Int).toNat).drop ((ji32) : Int).toNat).take 4).length (c0 - (ji32).toNat)] (by rfl) rfl rfl (by (try simp only [List.map_toArray, List.map_cons, List.map_nil]); first | done | (rw [show (((l0.take ((wrap64 (19 + (wrap64 (6 * x8_2)))) : Int).toNat).drop ((ji32) : Int).toNat).take 4).length = 4 from (by rw [List.length_take]; have h_ : (4 : Int) ≤ (((l0.take ((wrap64 (19 + (wrap64 (6 * x8_2)))) : Int).toNat).drop ((ji32) : Int).toNat).length : Int) := of_decide_eq_true (by first | (with_reducible assumption) | assumption); omega)] <;> rfl) | (simp only [hji32]; rfl) | rfl | (simp only [List.length_drop, List.length_take]; rfl)) ?_
                                                    with_reducible refine (undercroftref01_Number.calls k2 _ _ (((l0.take ((wrap64 (19 + (wrap64 (6 * x8_2)))) : Int).toNat).drop ((ji32) : Int).toNat).take 4) t212 _ ?side1 ?side2 A42.out).mono ?_
                                                    (case side1 => repeat (first | exact (Kd.C_below HR211.out HB.out) | (with_reducible refine Kd.C_alloc ?_ _) | (with_reducible refine Kd.C_drewN ?_ _) | (with_reducible refine Kd.C_drew ?_)))
                                                    (case side2 => exact HC211.out)
                                                    rintro e w' ⟨rfl, ⟨nd, rfl⟩⟩
                                                    refine ⟨_, rfl, ?_⟩
                                                    refine hK.out _ _ ⟨(blk_cell BK208.out 0).trans rfl, (blk_cell BK208.out 1).trans rfl, ((HB.out.cell (World.block_lt_of_cell? w _ hw213_0)).trans hw213_0)⟩ (fun hHeld => ?_)
                                                    clear hK K
                                                    refine norm_ (a' := ?_) ?_ ?_
                                                    rotate_left
                                                    · show Act.put _ (some 85) _ = _
                                                      simp only [Act.put, List.setIfInBounds_toArray, List.set_cons_zero, List.set_cons_succ, i64_w, i32_w]
                                                      rfl
                                                    refine pure_ (i := 5) (N := some 86) (v := ?_) (a' := ?_) #[true, true, true, true, true, true, true, true, true, true, true, true, true, true, true, true, false, false, false, false, false, false] rfl rfl (any_of HT_.out (by kernel_rfl)) (fun _ _ _ h => h) (Or.inl ⟨by rfl, ?_⟩) ?_ ?_
                                                    rotate_left
                                                    · intro w'
                                                      go_simp
                                                      with_reducible rfl
                                                    rotate_left
                                                    · simp only [Act.put, List.setIfInBounds_toArray, List.set_cons_zero, List.set_cons_succ, i64_w, i32_w]
                                                      rfl
                                                    refine one_ (i := 16) (N := some 97) #[true, true, true, true, true, true, true, true, true, true, true, true, true, true, true, true, true, false, false, false, false, false] rfl rfl (one_of HT_.out (by kernel_rfl)) (by decide) (fun K hK => ?_)
                                                    refine goes_ Tryd.func38 (by kernel_rfl) rfl #[.slice A52 ((l0.take ((wrap64 (x7_2 + (wrap64 (rd ((l0.take ((wrap64 (19 + (wrap64 (6 * x8_2)))) : Int).toNat).drop ((ji32) : Int).toNat) 5)))) : Int).toNat).drop (x7_2 : Int).toNat).length (c0 - x7_2.toNat)] (by rfl) rfl rfl (by (try simp only [List.map_toArray, List.map_cons, List.map_nil]); first | done | (rw [show ((l0.take ((wrap64 (x7_2 + (wrap64 (rd ((l0.take ((wrap64 (19 + (wrap64 (6 * x8_2)))) : Int).toNat).drop ((ji32) : Int).toNat) 5)))) : Int).toNat).drop (x7_2 : Int).toNat).length = ((wrap64 (x7_2 + (wrap64 (rd ((l0.take ((wrap64 (19 + (wrap64 (6 * x8_2)))) : Int).toNat).drop ((ji32) : Int).toNat) 5)))).toNat - x7_2.toNat) from (by rw [List.length_drop, List.length_take]; have h_ : ((wrap64 (x7_2 + (wrap64 (rd ((l0.take ((wrap64 (19 + (wrap64 (6 * x8_2)))) : Int).toNat).drop ((ji32) : Int).toNat) 5)))) : Int) ≤ (l0.length : Int) := of_decide_eq_true (by first | (with_reducible assumption) | assumption); omega)] <;> rfl) | (simp only [hji32]; rfl) | rfl | (simp only [List.length_drop, List.length_take]; rfl)) ?_
                                                    with_reducible refine (undercroftref02_Copied.calls _ _ ((l0.take ((wrap64 (x7_2 + (wrap64 (rd ((l0.take ((wrap64 (19 + (wrap64 (6 * x8_2)))) : Int).toNat).drop ((ji32) : Int).toNat) 5)))) : Int).toNat).drop (x7_2 : Int).toNat) t215 _ ?side1 ?side2 A47.out).mono ?_
                                                    (case side1 => repeat (first | exact (Kd.C_below HR214.out (by repeat (first | (with_reducible first | exact HB.out | apply below_alloc | apply pw_below_drewN | apply below_drew1 | refine below_set ?_ GE199.out | refine below_set ?_ GE208.out) | exact HB.out))) | (with_reducible refine Kd.C_alloc ?_ _) | (with_reducible refine Kd.C_drewN ?_ _) | (with_reducible refine Kd.C_drew ?_)))
                                                    (case side2 => exact HC214.out)
                                                    rintro e w53 ⟨v216, rfl, ho0, hb⟩
                                                    refine ⟨_, rfl, ?_⟩
                                                    have n0_ := Aside0.mk (Kd.S_elder' (by (with_reducible repeat (first | apply Kd.S_alloc | apply Kd.S_drewN | apply Kd.S_drew)); exact HO_209001.out) (Kd.R_base ho0) hb)
                                                    have n1_ := Aside0.mk (Kd.R_lower ho0 (below_size (by repeat (first | (with_reducible first | exact HB.out | apply below_alloc | apply pw_below_drewN | apply below_drew1 | refine below_set ?_ GE199.out | refine below_set ?_ GE208.out) | exact HB.out))))
                                                    have n2_ := Aside0.mk (blk_below (g := gb199) (o := .cells #[.int .i64 x200000_2, .slice none 0 0] 24 (0, 0)) (by (with_reducible repeat (first | refine blk_drewN ?_ _ | refine blk_drew ?_ | refine blk_alloc ?_ _)); exact BK199.out) hb)
                                                    have n3_ := Aside0.mk (blk_below (g := gb208) (o := .cells #[.int .i64 (wrap64 (t206)), u209001] 24 (0, 0)) (by (with_reducible repeat (first | refine blk_drewN ?_ _ | refine blk_drew ?_ | refine blk_alloc ?_ _)); exact BK208.out) hb)
                                                    have n4_ := Aside0.mk (below_step (by repeat (first | (with_reducible first | exact HB.out | apply below_alloc | apply pw_below_drewN | apply below_drew1 | refine below_set ?_ GE199.out | refine below_set ?_ GE208.out) | exact HB.out)) hb)
                                                    clear HO_209001
                                                    clear BK199
                                                    clear BK208
                                                    clear HB
                                                    have HO_209001 := n0_
                                                    have HO217 := n1_
                                                    have BK199 := n2_
                                                    have BK208 := n3_
                                                    have HB := n4_
                                                    clear n0_ n1_ n2_ n3_ n4_
                                                    (try clear hb)
                                                    (try clear hb2)
                                                    (try clear hk)
                                                    (try clear hi)
                                                    (try clear ho0)
                                                    obtain ⟨Ao54, co54, eo54⟩ := Kd.R_slice HO217.out
                                                    (first | subst eo54 | (injection eo54 with f1_ f2_ f3_; have f4_ := f1_.symm; have f5_ := f3_.symm; clear f1_ f2_ f3_; subst f4_; subst f5_))
                                                    refine hK.out _ _ ⟨(blk_cell BK208.out 0).trans rfl, (blk_cell BK208.out 1).trans rfl, ((HB.out.cell (World.block_lt_of_cell? w _ hw213_0)).trans hw213_0)⟩ (fun hHeld => ?_)
                                                    clear hK K
                                                    refine norm_ (a' := ?_) ?_ ?_
                                                    rotate_left
                                                    · show Act.put _ (some 97) _ = _
                                                      simp only [Act.put, List.setIfInBounds_toArray, List.set_cons_zero, List.set_cons_succ, i64_w, i32_w]
                                                      rfl
                                                    refine pure_ (i := 17) (N := some 98) (v := ?_) (a' := ?_) #[true, true, true, true, true, true, true, true, true, true, true, true, true, true, true, true, true, true, false, false, false, false] rfl rfl (any_of HT_.out (by kernel_rfl)) (fun _ _ _ h => h) (Or.inl ⟨by rfl, ?_⟩) ?_ ?_
                                                    rotate_left
                                                    · intro w'
                                                      go_simp
                                                      with_reducible rfl
                                                    rotate_left
                                                    · simp only [Act.put, List.setIfInBounds_toArray, List.set_cons_zero, List.set_cons_succ, i64_w, i32_w]
                                                      rfl
                                                    refine one_ (i := 18) (N := some 99) #[true, true, true, true, true, true, true, true, true, true, true, true, true, true, true, true, true, true, true, false, false, false] rfl rfl (one_of HT_.out (by kernel_rfl)) (by decide) (fun K hK => ?_)
                                                    refine value_ (w1 := ?_) (v := ?_) (by rfl) rfl ?_ ?_
                                                    rotate_left 2
                                                    · go_simp
                                                      constructor
                                                      · rfl
                                                      · rfl
                                                    refine hK.out _ _ ⟨(blk_cell (blk_alloc BK208.out _) 0).trans rfl, (blk_cell (blk_alloc BK208.out _) 1).trans rfl, (World.cell?_alloc_lt _ _ _ (World.block_lt_of_cell? _ _ (((HB.out.cell (World.block_lt_of_cell? w _ hw213_0)).trans hw213_0)))).trans (((HB.out.cell (World.block_lt_of_cell? w _ hw213_0)).trans hw213_0))⟩ (fun hHeld => ?_)
                                                    clear hK K
                                                    refine norm_ (a' := ?_) ?_ ?_
                                                    rotate_left
                                                    · show Act.put _ (some 99) _ = _
                                                      simp only [Act.put, List.setIfInBounds_toArray, List.set_cons_zero, List.set_cons_succ, i64_w, i32_w]
                                                      rfl
                                                    refine one_ (i := 19) (N := some 100) #[true, true, true, true, true, true, true, true, true, true, true, true, true, true, true, true, true, true, true, true, false, false] rfl rfl (one_of HT_.out (by kernel_rfl)) (by decide) (fun K hK => ?_)
                                                    refine Kd.S_append_step k60 (w0 := w) w.heap.size (by rfl) (.tmp 82) (.tmp 99) 22 60 (.agg #[(.int .i64 0), (.int .i64 0), (.slice none 0 0)]) 40 rfl Tryd.underlying22 info60 rfl (by decide) (by omega) u209001 x209001_2 (⟨wrap64 (t212), wrap64 (rd ((l0.take ((wrap64 (19 + (wrap64 (6 * x8_2)))) : Int).toNat).drop ((ji32) : Int).toNat) 4), t215⟩ : S60) [.int .i64 (wrap64 (t212)), .int .i64 (wrap64 (rd ((l0.take ((wrap64 (19 + (wrap64 (6 * x8_2)))) : Int).toNat).drop ((ji32) : Int).toNat) 4)), .slice Ao54 t215.length co54] (fun _ => True) (fun k_ => some k_ = (.slice Ao54 t215.length co54 : Value).ownBlock) rfl rfl ?aP (fun k_ hk_ => ((Kd.R_mono (ok' := fun k_ => ((fun _ => True)) k_ ∧ some k_ ≠ (u209001 : Value).ownBlock) (Kd.R_apart' (HO217.out) (Kd.S_typed HO_209001.out) (by decide)) (fun k_ hk => ⟨trivial, hk.2⟩))).1 k_ hk_.symm) ?aF ?aO ?aB ?aS ?aL ?_
                                                    (case aP => exact k60_mkM _ _ _ (⟨wrap64 (t212), wrap64 (rd ((l0.take ((wrap64 (19 + (wrap64 (6 * x8_2)))) : Int).toNat).drop ((ji32) : Int).toNat) 4), t215⟩ : S60) (Kd.R_mono (Kd.R_tight rfl (Kd.R_mono (ok' := fun k_ => ((fun _ => True)) k_ ∧ some k_ ≠ (u209001 : Value).ownBlock) (Kd.R_apart' (HO217.out) (Kd.S_typed HO_209001.out) (by decide)) (fun k_ hk => ⟨trivial, hk.2⟩))) (fun _ h_ => h_)))
                                                    (case aB => exact (by repeat (first | (with_reducible first | exact HB.out | apply below_alloc | apply pw_below_drewN | apply below_drew1 | refine below_set ?_ GE199.out | refine below_set ?_ GE208.out) | exact HB.out)))
                                                    (case aF => exact (fun _ _ => trivial))
                                                    (case aO => exact (by (with_reducible repeat (first | apply Kd.S_alloc | apply Kd.S_drewN | apply Kd.S_drew)); exact Kd.S_mono HO_209001.out (fun k_ hk => ⟨trivial, fun e_ => hk.2 e_⟩)))
                                                    (case aS => exact (below_size (by repeat (first | (with_reducible first | exact HB.out | apply below_alloc | apply pw_below_drewN | apply below_drew1 | refine below_set ?_ GE199.out | refine below_set ?_ GE208.out) | exact HB.out))))
                                                    (case aL => have := LMc48.out; omega)
                                                    intro v219 w55 ho hb hg hat
                                                    rw [← Ny218.out] at ho
                                                    have n0_ := Aside0.mk (blk_grown (g := gb199) (o := .cells #[.int .i64 x200000_2, .slice none 0 0] 24 (0, 0)) (by (with_reducible repeat (first | refine blk_drewN ?_ _ | refine blk_drew ?_ | refine blk_alloc ?_ _)); exact BK199.out) hg (Kd.S_ne HO_209001.out BK199.out (by decide)))
                                                    have n1_ := Aside0.mk (blk_grown (g := gb208) (o := .cells #[.int .i64 (wrap64 (t206)), u209001] 24 (0, 0)) (by (with_reducible repeat (first | refine blk_drewN ?_ _ | refine blk_drew ?_ | refine blk_alloc ?_ _)); exact BK208.out) hg (Kd.S_ne HO_209001.out BK208.out (by decide)))
                                                    have n2_ := Aside0.mk (hb)
                                                    have n3_ := Aside0.mk (ho)
                                                    clear BK199
                                                    clear BK208
                                                    clear HB
                                                    clear HO_209001
                                                    clear HO217
                                                    have BK199 := n0_
                                                    have BK208 := n1_
                                                    have HB := n2_
                                                    have HO220 := n3_
                                                    clear n0_ n1_ n2_ n3_
                                                    clear ho hb hg hat
                                                    obtain ⟨Ao56, co56, eo56⟩ := Kd.S_slice HO220.out
                                                    (first | subst eo56 | (injection eo56 with f1_ f2_ f3_; have f4_ := f1_.symm; have f5_ := f3_.symm; clear f1_ f2_ f3_; subst f4_; subst f5_))
                                                    refine hK.out _ _ ⟨(blk_cell BK208.out 0).trans rfl, (blk_cell BK208.out 1).trans rfl, ((HB.out.cell (World.block_lt_of_cell? w _ hw213_0)).trans hw213_0)⟩ (fun hHeld => ?_)
                                                    clear hK K
                                                    refine norm_ (a' := ?_) ?_ ?_
                                                    rotate_left
                                                    · show Act.put _ (some 100) _ = _
                                                      simp only [Act.put, List.setIfInBounds_toArray, List.set_cons_zero, List.set_cons_succ, i64_w, i32_w]
                                                      rfl
                                                    refine pure_ (i := 20) (N := some 101) (v := ?_) (a' := ?_) #[true, true, true, true, true, true, true, true, true, true, true, true, true, true, true, true, true, true, true, true, true, false] rfl rfl (any_of HT_.out (by kernel_rfl)) (fun _ _ _ h => h) (Or.inl ⟨by rfl, ?_⟩) ?_ ?_
                                                    rotate_left
                                                    · intro w'
                                                      go_simp
                                                      with_reducible rfl
                                                    rotate_left
                                                    · simp only [Act.put, List.setIfInBounds_toArray, List.set_cons_zero, List.set_cons_succ, i64_w, i32_w]
                                                      rfl
                                                    refine last_ (i := 21) (N := none) #[true, true, true, true, true, true, true, true, true, true, true, true, true, true, true, true, true, true, true, true, true, true] rfl rfl (one_of HT_.out (by kernel_rfl)) (by decide) (fun K hK => ?_)
                                                    have hs57 : w55.cell? ⟨gb208, 1, none⟩ = some (u209001) := (blk_cell BK208.out 1).trans rfl
                                                    have hfs57 := blk_frozen BK208.out 1
                                                    have hns57_0 := NB199_208.out
                                                    have hms57_0 := NB208_199.out
                                                    refine skip_ (w1 := ?_) (by rfl) rfl ?_ ?_
                                                    rotate_left
                                                    · go_simp
                                                      rfl
                                                    refine hK.out _ _ ?_
                                                    clear hK K
                                                    refine done_ (done_of HT_.out (by kernel_rfl)) ?_
                                                    try go_wp2
                                                    go_roundg k2
                                                    case measure => have := HJ13.out; have := HK2.out; omega
                                                    case rel => exact ⟨(wrap64 (x7_2 + (wrap64 (rd ((l0.take ((wrap64 (19 + (wrap64 (6 * x8_2)))) : Int).toNat).drop ((ji32) : Int).toNat) 5)))), (wrap64 (x8_2 + 1)), (x200000_2), (y218), (.slice Ao56 y218.length co56), (by first | rfl | (simp; done) | (simp only [← hji32] <;> (first | rfl | simp)) | (simp [*]; done)), (by first | rfl | (simp; done) | (simp [*]; done)), H', ⟨by have := HJ13.out; have := HK2.out; omega⟩, ⟨by (with_reducible repeat (first | apply Kd.S_alloc | apply Kd.S_drewN | apply Kd.S_drew)); exact Kd.S_mono (Kd.S_far (p := ⟨gb208, 1, none⟩) (Kd.S_types HO220.out BK208.out (by decide)) (fun _ hk => hk.2) (.slice Ao56 y218.length co56)) (fun _ hk => trivial)⟩, ⟨by (with_reducible repeat (first | refine blk_drewN ?_ _ | refine blk_drew ?_ | refine blk_alloc ?_ _)); refine blk_far ?_ NB199_208.out _; (with_reducible repeat (first | refine blk_drewN ?_ _ | refine blk_drew ?_ | refine blk_alloc ?_ _)); exact BK199.out⟩, ⟨by (with_reducible repeat (first | refine blk_drewN ?_ _ | refine blk_drew ?_ | refine blk_alloc ?_ _)); refine blk_put (cs := #[.int .i64 (wrap64 (t206)), u209001]) ?_ 1 _ rfl; (with_reducible repeat (first | refine blk_drewN ?_ _ | refine blk_drew ?_ | refine blk_alloc ?_ _)); exact BK208.out⟩, ⟨by repeat (first | (with_reducible first | exact HB.out | apply below_alloc | apply pw_below_drewN | apply below_drew1 | refine below_set ?_ GE199.out | refine below_set ?_ GE208.out) | exact HB.out)⟩⟩
                                                  · rw [if_neg c48] at H
                                                    exact absurd H (by simp)
                                                · rw [if_neg c46] at H
                                                  exact absurd H (by simp)
                                              · rw [if_neg c45] at H
                                                exact absurd H (by simp)
                                            · rw [if_neg c44] at H
                                              exact absurd H (by simp)
                                          · rw [if_neg c43] at H
                                            exact absurd H (by simp)
                                        · rw [if_neg c41] at H
                                          exact absurd H (by simp)
                                    · rw [if_neg c36] at H
                                      exact absurd H (by simp)
                                  · rw [if_neg c35] at H
                                    exact absurd H (by simp)
                                · rw [if_neg c34] at H
                                  exact absurd H (by simp)
                              · rw [if_neg c33] at H
                                exact absurd H (by simp)
                            · rw [if_neg c31] at H
                              have c31b0 : decide (x8_2 < (wrap64 (rd l0 12))) = false := decide_eq_false c31
                              clear c31
                              replace H := Option.bind_eq_some_iff.mp H
                              obtain ⟨t221, A580, H⟩ := H
                              replace H : (if t221 = 0 then (undercroftref13_Open.l1 k2 l0 x7_2 (wrap64 (t206)) x209001_2) else (some (0, ([] : List (S60)), 9))) = some (r1, r2, r3) := H
                              have A58 := Aside0.mk A580
                              clear A580
                              by_cases c59 : t221 = 0
                              · rw [if_pos c59] at H
                                have c59b0 : (t221 == 0) = true := beq_iff_eq.mpr c59
                                have c59b1 : (t221 != 0) = false := bne_eq_false_iff_eq.mpr c59
                                clear c59
                                have H' := Aside0.mk H
                                clear H
                                have hnb60 := NB208_199.out
                                have hnc60 := NB199_208.out
                                have hcz61_0 : wr.cell? ⟨gb208, 0, none⟩ = some (.int .i64 (wrap64 (t206))) := (blk_cell BK208.out 0).trans rfl
                                have hcz61_1 : wr.cell? ⟨gb208, 1, none⟩ = some (u209001) := (blk_cell BK208.out 1).trans rfl
                                have hfz61_0 := blk_frozen BK208.out 0
                                have hfz61_1 := blk_frozen BK208.out 1
                                obtain ⟨Ao62, co62, eo62⟩ := Kd.S_slice HO_209001.out
                                subst eo62
                                go_wp2_with (first | ((with_reducible refine gate_callee (f := 24) rfl ?_); refine goesL_ (some 106) rfl rfl Tryd.func24 (by kernel_rfl) rfl #[.agg #[.int .i64 (wrap64 (t206)), .slice Ao62 x209001_2.length co62]] rfl (by (try simp only [List.map_toArray, List.map_cons, List.map_nil]); first | done | rfl | (simp only [List.length_drop, List.length_take]; rfl)) ?_; (with_reducible refine (undercroftref13_Check.calls k2 (wrap64 (t206)) _ _ x209001_2 t221 _ ?side1 ?side2 A58.out).mono ?_); (case side1 => repeat (first | exact (Kd.S_reads' HO_209001.out).2.2 | (with_reducible refine Kd.C_alloc ?_ _) | (with_reducible refine Kd.C_drewN ?_ _) | (with_reducible refine Kd.C_drew ?_))); (case side2 => exact (Kd.S_reads' HO_209001.out).2.1); rintro e w63 ⟨rfl, hb⟩; refine ⟨_, rfl, ?_⟩; have n0_ := Aside0.mk (Kd.S_below (by (with_reducible repeat (first | apply Kd.S_alloc | apply Kd.S_drewN | apply Kd.S_drew)); exact HO_209001.out) hb); have n1_ := Aside0.mk (blk_below (g := gb199) (o := .cells #[.int .i64 x200000_2, .slice none 0 0] 24 (0, 0)) (by (with_reducible repeat (first | refine blk_drewN ?_ _ | refine blk_drew ?_ | refine blk_alloc ?_ _)); exact BK199.out) hb); have n2_ := Aside0.mk (blk_below (g := gb208) (o := .cells #[.int .i64 (wrap64 (t206)), .slice Ao62 x209001_2.length co62] 24 (0, 0)) (by (with_reducible repeat (first | refine blk_drewN ?_ _ | refine blk_drew ?_ | refine blk_alloc ?_ _)); exact BK208.out) hb); have n3_ := Aside0.mk (below_step (by repeat (first | (with_reducible first | exact HB.out | apply below_alloc | apply pw_below_drewN | apply below_drew1 | refine below_set ?_ GE199.out | refine below_set ?_ GE208.out) | exact HB.out)) hb); clear HO_209001; clear BK199; clear BK208; clear HB; have HO_209001 := n0_; have BK199 := n1_; have BK208 := n2_; have HB := n3_; clear n0_ n1_ n2_ n3_; (try clear hb); (try clear hb2); (try clear hk); (try clear hi)))
                                go_loopg [11] k2 (fun kq v11 w' => ∃ (x11_3 : Int) (x200000_3 : Int), v11 = .int .i64 x11_3 ∧ Aside0 (undercroftref13_Open.l1 kq l0 x11_3 (wrap64 (t206)) x209001_2 = some (r1, r2, r3)) ∧ Aside0 (kq ≤ k2) ∧ Aside0 (Kd.S k60 60 w' w.heap.size (fun _ => True) (.slice Ao62 x209001_2.length co62) x209001_2) ∧ Aside0 (w'.heap[gb199]? = some (.cells #[.int .i64 x200000_3, (.slice none 0 0)] 24 (0, 0))) ∧ Aside0 (w'.heap[gb208]? = some (.cells #[.int .i64 (wrap64 (t206)), (.slice Ao62 x209001_2.length co62)] 24 (0, 0))) ∧ Aside0 (Below w.heap.size w w'))
                                case atStart => exact ⟨(x7_2), (x200000_2), (by first | rfl | (simp; done) | (simp [*]; done)), H', ⟨Nat.le_refl _⟩, ⟨by (with_reducible repeat (first | apply Kd.S_alloc | apply Kd.S_drewN | apply Kd.S_drew)); exact HO_209001.out⟩, ⟨by (with_reducible repeat (first | refine blk_drewN ?_ _ | refine blk_drew ?_ | refine blk_alloc ?_ _)); exact BK199.out⟩, ⟨by (with_reducible repeat (first | refine blk_drewN ?_ _ | refine blk_drew ?_ | refine blk_alloc ?_ _)); exact BK208.out⟩, ⟨by repeat (first | (with_reducible first | exact HB.out | apply below_alloc | apply pw_below_drewN | apply below_drew1 | refine below_set ?_ GE199.out | refine below_set ?_ GE208.out) | exact HB.out)⟩⟩
                                case round =>
                                  clear H'
                                  try clear c1
                                  try clear c2
                                  try clear c2b0
                                  try clear c2b1
                                  try clear p2
                                  try clear q2
                                  try clear hx2
                                  try clear hcv2
                                  try clear qi2
                                  try clear c3
                                  try clear c3b0
                                  try clear c3b1
                                  try clear c4
                                  try clear c5
                                  try clear c5b0
                                  try clear c6
                                  try clear p6
                                  try clear c7
                                  try clear c7b0
                                  try clear c7b1
                                  try clear c8
                                  try clear c8b0
                                  try clear c8b1
                                  try clear c9
                                  try clear c9b0
                                  try clear c9b1
                                  try clear c10
                                  try clear c10b0
                                  try clear c10b1
                                  try clear c11
                                  try clear c11b0
                                  try clear c11b1
                                  try clear c13
                                  try clear c13b0
                                  try clear c13b1
                                  try clear c19
                                  try clear p20
                                  try clear q20
                                  try clear hx20
                                  try clear hcv20
                                  try clear qi20
                                  try clear p21
                                  try clear q21
                                  try clear hx21
                                  try clear qi21
                                  try clear c23
                                  try clear c23b0
                                  try clear c24
                                  try clear c24b0
                                  try clear c25
                                  try clear c25b0
                                  try clear c26
                                  try clear c29
                                  try clear c31
                                  try clear c31b0
                                  try clear c33
                                  try clear c33b0
                                  try clear c33b1
                                  try clear c34
                                  try clear c34b0
                                  try clear c34b1
                                  try clear c35
                                  try clear c35b0
                                  try clear c35b1
                                  try clear c36
                                  try clear c36b0
                                  try clear c36b1
                                  try clear c37
                                  try clear c37b0
                                  try clear c38
                                  try clear c39
                                  try clear c41
                                  try clear c41b0
                                  try clear c41b1
                                  try clear c43
                                  try clear c43b0
                                  try clear c43b1
                                  try clear c44
                                  try clear c44b0
                                  try clear c44b1
                                  try clear c45
                                  try clear c45b0
                                  try clear c45b1
                                  try clear c46
                                  try clear c46b0
                                  try clear c46b1
                                  try clear c48
                                  try clear c59
                                  try clear c59b0
                                  try clear c59b1
                                  try clear c60
                                  try clear hcz27_0
                                  try clear hcz27_1
                                  try clear hcz30_0
                                  try clear hcz30_1
                                  try clear hcz40_0
                                  try clear hcz40_1
                                  try clear hcz61_0
                                  try clear hcz61_1
                                  try clear hfz27_0
                                  try clear hfz27_1
                                  try clear hfz30_0
                                  try clear hfz30_1
                                  try clear hfz40_0
                                  try clear hfz40_1
                                  try clear hfz61_0
                                  try clear hfz61_1
                                  try clear hx207_0
                                  try clear hx210_0
                                  try clear hx213_0
                                  try clear p2
                                  try clear p20
                                  try clear p207
                                  try clear p210
                                  try clear p213
                                  try clear p6
                                  try clear q2
                                  try clear q20
                                  try clear q207
                                  try clear q210
                                  try clear q213
                                  obtain ⟨x11_3, x200000_3, rfl, HA, HK3, HO_209001, BK199, BK208, HB⟩ := hrel
                                  cases gk with
                                  | zero => exact absurd HA.out (by simp [undercroftref13_Open.l1])
                                  | succ k3 =>
                                    have H := HA.out
                                    clear HA
                                    simp only [undercroftref13_Open.l1] at H
                                    by_cases c64 : x11_3 < 380
                                    · rw [if_pos c64] at H
                                      have c64b0 : decide (x11_3 < 380) = true := decide_eq_true c64
                                      clear c64
                                      by_cases c65 : 0 ≤ x11_3
                                      · rw [if_pos c65] at H
                                        have c65b0 : decide (0 ≤ x11_3) = true := decide_eq_true c65
                                        clear c65
                                        by_cases c66 : x11_3 < (l0.length : Int)
                                        · rw [if_pos c66] at H
                                          have c66b0 : decide (x11_3 < (l0.length : Int)) = true := decide_eq_true c66
                                          clear c66
                                          by_cases c67 : (rd l0 x11_3) = 0
                                          · rw [if_pos c67] at H
                                            have c67b0 : ((rd l0 x11_3) == 0) = true := beq_iff_eq.mpr c67
                                            have c67b1 : ((rd l0 x11_3) != 0) = false := bne_eq_false_iff_eq.mpr c67
                                            clear c67
                                            have H' := Aside0.mk H
                                            clear H
                                            have p222 : 0 ≤ (x11_3 : Int) := of_decide_eq_true (by first | (with_reducible assumption) | assumption)
                                            have q222 : x11_3 < (l0.length : Int) := of_decide_eq_true (by first | (with_reducible assumption) | assumption)
                                            obtain ⟨ad222, e222, hx222_0⟩ := Kd.at_int HR0.out x11_3 p222 q222
                                            obtain rfl : ad207 = ad222 := (by injection e222)
                                            replace hx222_0 := (HB.out.cell (World.block_lt_of_cell? w _ hx222_0)).trans hx222_0
                                            replace p222 := eq_true p222
                                            replace q222 := eq_true q222
                                            go_wp2
                                            go_roundg k3
                                            case measure => have := HJ13.out; have := HK2.out; have := HK3.out; omega
                                            case rel => exact ⟨(wrap64 (x11_3 + 1)), (x200000_3), (by first | rfl | (simp; done) | (simp [*]; done)), H', ⟨by have := HJ13.out; have := HK2.out; have := HK3.out; omega⟩, ⟨by (with_reducible repeat (first | apply Kd.S_alloc | apply Kd.S_drewN | apply Kd.S_drew)); exact HO_209001.out⟩, ⟨by (with_reducible repeat (first | refine blk_drewN ?_ _ | refine blk_drew ?_ | refine blk_alloc ?_ _)); exact BK199.out⟩, ⟨by (with_reducible repeat (first | refine blk_drewN ?_ _ | refine blk_drew ?_ | refine blk_alloc ?_ _)); exact BK208.out⟩, ⟨by repeat (first | (with_reducible first | exact HB.out | apply below_alloc | apply pw_below_drewN | apply below_drew1 | refine below_set ?_ GE199.out | refine below_set ?_ GE208.out) | exact HB.out)⟩⟩
                                          · rw [if_neg c67] at H
                                            have c67b0 : ((rd l0 x11_3) == 0) = false := beq_eq_false_iff_ne.mpr c67
                                            have c67b1 : ((rd l0 x11_3) != 0) = true := bne_iff_ne.mpr c67
                                            simp only [Option.some.injEq, Prod.mk.injEq] at H
                                            obtain ⟨rfl, rfl, rfl⟩ := H
                                            have p222 : 0 ≤ (x11_3 : Int) := of_decide_eq_true (by first | (with_reducible assumption) | assumption)
                                            have q222 : x11_3 < (l0.length : Int) := of_decide_eq_true (by first | (with_reducible assumption) | assumption)
                                            obtain ⟨ad222, e222, hx222_0⟩ := Kd.at_int HR0.out x11_3 p222 q222
                                            obtain rfl : ad207 = ad222 := (by injection e222)
                                            replace hx222_0 := (HB.out.cell (World.block_lt_of_cell? w _ hx222_0)).trans hx222_0
                                            replace p222 := eq_true p222
                                            replace q222 := eq_true q222
                                            have hnb68 := NB199_208.out
                                            have hnc68 := NB208_199.out
                                            have hcz69_0 : wr.cell? ⟨gb199, 0, none⟩ = some (.int .i64 x200000_3) := (blk_cell BK199.out 0).trans rfl
                                            have hcz69_1 : wr.cell? ⟨gb199, 1, none⟩ = some (.slice none 0 0) := (blk_cell BK199.out 1).trans rfl
                                            have hfz69_0 := blk_frozen BK199.out 0
                                            have hfz69_1 := blk_frozen BK199.out 1
                                            go_wp2
                                            refine bodyPost_ret (results_ct rfl _ _ gb199 24 #[.int .i64 0, .slice none 0 0] (0, 0) _ rfl (by (with_reducible repeat (first | refine blk_drewN ?_ _ | refine blk_drew ?_ | refine blk_alloc ?_ _)); refine blk_put (cs := #[.int .i64 0, .slice none 0 0]) ?_ 1 _ rfl; (with_reducible repeat (first | refine blk_drewN ?_ _ | refine blk_drew ?_ | refine blk_alloc ?_ _)); refine blk_put (cs := #[.int .i64 x200000_3, .slice none 0 0]) ?_ 0 _ rfl; (with_reducible repeat (first | refine blk_drewN ?_ _ | refine blk_drew ?_ | refine blk_alloc ?_ _)); exact BK199.out) Tryd.underlying24 rfl (by kernel_rfl)) rfl ?_
                                            exact ⟨_, by first | rfl | (simp [errW_none, errW_some] <;> rfl) | (simp [*, errW_none, errW_some] <;> rfl) | (exfalso; simp only [beq_iff_eq, decide_eq_true_eq] at *; omega), by first | exact Kd.S_nil _ _ _ _ _ | exact Kd.N_nil _ _ _ _ _ | exact Kd.V_nil _ _ _ _ _ | exact Kd.Q_nil _ _ _ _ _ | exact Kd.R_nil _ _ _ _ _, by repeat (first | (with_reducible first | exact HB.out | apply below_alloc | apply pw_below_drewN | apply below_drew1 | refine below_set ?_ GE199.out | refine below_set ?_ GE208.out) | exact HB.out)⟩
                                        · rw [if_neg c66] at H
                                          exact absurd H (by simp)
                                      · rw [if_neg c65] at H
                                        exact absurd H (by simp)
                                    · rw [if_neg c64] at H
                                      have c64b0 : decide (x11_3 < 380) = false := decide_eq_false c64
                                      clear c64
                                      simp only [Option.some.injEq, Prod.mk.injEq] at H
                                      obtain ⟨rfl, rfl, rfl⟩ := H
                                      have hnb70 := NB208_199.out
                                      have hnc70 := NB199_208.out
                                      have hcz71_0 : wr.cell? ⟨gb208, 0, none⟩ = some (.int .i64 (wrap64 (t206))) := (blk_cell BK208.out 0).trans rfl
                                      have hcz71_1 : wr.cell? ⟨gb208, 1, none⟩ = some (.slice Ao62 x209001_2.length co62) := (blk_cell BK208.out 1).trans rfl
                                      have hfz71_0 := blk_frozen BK208.out 0
                                      have hfz71_1 := blk_frozen BK208.out 1
                                      have hcz72_0 : wr.cell? ⟨gb199, 0, none⟩ = some (.int .i64 x200000_3) := (blk_cell BK199.out 0).trans rfl
                                      have hcz72_1 : wr.cell? ⟨gb199, 1, none⟩ = some (.slice none 0 0) := (blk_cell BK199.out 1).trans rfl
                                      have hfz72_0 := blk_frozen BK199.out 0
                                      have hfz72_1 := blk_frozen BK199.out 1
                                      go_wp2
                                      refine bodyPost_ret (results_ct rfl _ _ gb199 24 #[.int .i64 (wrap64 (t206)), .slice Ao62 x209001_2.length co62] (0, 0) _ rfl (by (with_reducible repeat (first | refine blk_drewN ?_ _ | refine blk_drew ?_ | refine blk_alloc ?_ _)); refine blk_put (cs := #[.int .i64 (wrap64 (t206)), .slice none 0 0]) ?_ 1 _ rfl; (with_reducible repeat (first | refine blk_drewN ?_ _ | refine blk_drew ?_ | refine blk_alloc ?_ _)); refine blk_put (cs := #[.int .i64 x200000_3, .slice none 0 0]) ?_ 0 _ rfl; (with_reducible repeat (first | refine blk_drewN ?_ _ | refine blk_drew ?_ | refine blk_alloc ?_ _)); exact BK199.out) Tryd.underlying24 rfl (by kernel_rfl)) rfl ?_
                                      exact ⟨_, by first | rfl | (simp [errW_none, errW_some] <;> rfl) | (simp [*, errW_none, errW_some] <;> rfl) | (exfalso; simp only [beq_iff_eq, decide_eq_true_eq] at *; omega), by (with_reducible repeat (first | apply Kd.S_alloc | apply Kd.S_drewN | apply Kd.S_drew)); exact Kd.S_mono (Kd.S_far (p := ⟨gb199, 1, none⟩) (Kd.S_far (p := ⟨gb199, 0, none⟩) (Kd.S_types HO_209001.out BK199.out (by decide)) (fun _ hk => hk.2) (.int .i64 (wrap64 (t206)))) (fun _ hk => hk.2) (.slice Ao62 x209001_2.length co62)) (fun _ hk => trivial), by repeat (first | (with_reducible first | exact HB.out | apply below_alloc | apply pw_below_drewN | apply below_drew1 | refine below_set ?_ GE199.out | refine below_set ?_ GE208.out) | exact HB.out)⟩
                              · rw [if_neg c59] at H
                                have c59b0 : (t221 == 0) = false := beq_eq_false_iff_ne.mpr c59
                                have c59b1 : (t221 != 0) = true := bne_iff_ne.mpr c59
                                simp only [Option.some.injEq, Prod.mk.injEq] at H
                                obtain ⟨rfl, rfl, rfl⟩ := H
                                have hnb73 := NB208_199.out
                                have hnc73 := NB199_208.out
                                have hcz74_0 : wr.cell? ⟨gb208, 0, none⟩ = some (.int .i64 (wrap64 (t206))) := (blk_cell BK208.out 0).trans rfl
                                have hcz74_1 : wr.cell? ⟨gb208, 1, none⟩ = some (u209001) := (blk_cell BK208.out 1).trans rfl
                                have hfz74_0 := blk_frozen BK208.out 0
                                have hfz74_1 := blk_frozen BK208.out 1
                                obtain ⟨Ao75, co75, eo75⟩ := Kd.S_slice HO_209001.out
                                subst eo75
                                go_wp2_with (first | ((with_reducible refine gate_callee (f := 24) rfl ?_); refine goesL_ (some 106) rfl rfl Tryd.func24 (by kernel_rfl) rfl #[.agg #[.int .i64 (wrap64 (t206)), .slice Ao75 x209001_2.length co75]] rfl (by (try simp only [List.map_toArray, List.map_cons, List.map_nil]); first | done | rfl | (simp only [List.length_drop, List.length_take]; rfl)) ?_; (with_reducible refine (undercroftref13_Check.calls k2 (wrap64 (t206)) _ _ x209001_2 t221 _ ?side1 ?side2 A58.out).mono ?_); (case side1 => repeat (first | exact (Kd.S_reads' HO_209001.out).2.2 | (with_reducible refine Kd.C_alloc ?_ _) | (with_reducible refine Kd.C_drewN ?_ _) | (with_reducible refine Kd.C_drew ?_))); (case side2 => exact (Kd.S_reads' HO_209001.out).2.1); rintro e w76 ⟨rfl, hb⟩; refine ⟨_, rfl, ?_⟩; have n0_ := Aside0.mk (Kd.S_below (by (with_reducible repeat (first | apply Kd.S_alloc | apply Kd.S_drewN | apply Kd.S_drew)); exact HO_209001.out) hb); have n1_ := Aside0.mk (blk_below (g := gb199) (o := .cells #[.int .i64 x200000_2, .slice none 0 0] 24 (0, 0)) (by (with_reducible repeat (first | refine blk_drewN ?_ _ | refine blk_drew ?_ | refine blk_alloc ?_ _)); exact BK199.out) hb); have n2_ := Aside0.mk (blk_below (g := gb208) (o := .cells #[.int .i64 (wrap64 (t206)), .slice Ao75 x209001_2.length co75] 24 (0, 0)) (by (with_reducible repeat (first | refine blk_drewN ?_ _ | refine blk_drew ?_ | refine blk_alloc ?_ _)); exact BK208.out) hb); have n3_ := Aside0.mk (below_step (by repeat (first | (with_reducible first | exact HB.out | apply below_alloc | apply pw_below_drewN | apply below_drew1 | refine below_set ?_ GE199.out | refine below_set ?_ GE208.out) | exact HB.out)) hb); clear HO_209001; clear BK199; clear BK208; clear HB; have HO_209001 := n0_; have BK199 := n1_; have BK208 := n2_; have HB := n3_; clear n0_ n1_ n2_ n3_; (try clear hb); (try clear hb2); (try clear hk); (try clear hi); have hcz77_0 : w76.cell? ⟨gb199, 0, none⟩ = some (.int .i64 x200000_2) := (blk_cell BK199.out 0).trans rfl; have hcz77_1 : w76.cell? ⟨gb199, 1, none⟩ = some (.slice none 0 0) := (blk_cell BK199.out 1).trans rfl; have hfz77_0 := blk_frozen BK199.out 0; have hfz77_1 := blk_frozen BK199.out 1))
                                refine bodyPost_ret (results_ct rfl _ _ gb199 24 #[.int .i64 0, .slice none 0 0] (0, 0) _ rfl (by (with_reducible repeat (first | refine blk_drewN ?_ _ | refine blk_drew ?_ | refine blk_alloc ?_ _)); refine blk_put (cs := #[.int .i64 0, .slice none 0 0]) ?_ 1 _ rfl; (with_reducible repeat (first | refine blk_drewN ?_ _ | refine blk_drew ?_ | refine blk_alloc ?_ _)); refine blk_put (cs := #[.int .i64 x200000_2, .slice none 0 0]) ?_ 0 _ rfl; (with_reducible repeat (first | refine blk_drewN ?_ _ | refine blk_drew ?_ | refine blk_alloc ?_ _)); exact BK199.out) Tryd.underlying24 rfl (by kernel_rfl)) rfl ?_
                                exact ⟨_, by first | rfl | (simp [errW_none, errW_some] <;> rfl) | (simp [*, errW_none, errW_some] <;> rfl) | (exfalso; simp only [beq_iff_eq, decide_eq_true_eq] at *; omega), by first | exact Kd.S_nil _ _ _ _ _ | exact Kd.N_nil _ _ _ _ _ | exact Kd.V_nil _ _ _ _ _ | exact Kd.Q_nil _ _ _ _ _ | exact Kd.R_nil _ _ _ _ _, by repeat (first | (with_reducible first | exact HB.out | apply below_alloc | apply pw_below_drewN | apply below_drew1 | refine below_set ?_ GE199.out | refine below_set ?_ GE208.out) | exact HB.out)⟩
                · rw [if_neg c13] at H
                  exact absurd H (by simp)
              · rw [if_neg c11] at H
                exact absurd H (by simp)
            · rw [if_neg c10] at H
              exact absurd H (by simp)
          · rw [if_neg c9] at H
            have c9b0 : ((strOfNums (l0.take 4)).toList == ([115, 101, 103, 49] : List UInt8)) = false := beq_eq_false_iff_ne.mpr c9
            have c9b1 : ((strOfNums (l0.take 4)).toList != ([115, 101, 103, 49] : List UInt8)) = true := bne_iff_ne.mpr c9
            simp only [Option.some.injEq, Prod.mk.injEq] at H
            obtain ⟨rfl, rfl, rfl⟩ := H
            go_enter Tryd.func19, Tryd.ntmps19
            try go_wp2_with (first | ((with_reducible refine gate_dst (N := 2) rfl ?_); refine box_event ?hg (N := 2) ?hd (cs := #[.int .i64 0, .slice none 0 0]) (t := 24) ?hr ?_; (case hd => rfl); (case hg => rfl); (case hr => first | (go_simp; done) | (go_simp; rfl)); intro gb199 hg w78 hbox hb; have n0_ := Aside0.mk (below_step (by repeat (first | (with_reducible first | exact HB.out | apply below_alloc | apply pw_below_drewN | apply below_drew1) | exact HB.out)) hb); have n1_ := Aside0.mk (hbox); have n2_ := Aside0.mk ((by rw [hg]; exact (below_size (by repeat (first | (with_reducible first | exact HB.out | apply below_alloc | apply pw_below_drewN | apply below_drew1) | exact HB.out))) : w.heap.size ≤ gb199)); have n3_ := Aside0.mk ((by rw [hg]; exact (below_size (by repeat (first | (with_reducible first | exact HB.out | apply below_alloc | apply pw_below_drewN | apply below_drew1) | exact HB.out))) : w.heap.size ≤ gb199)); clear HB; have HB := n0_; have BK199 := n1_; have GW199 := n2_; have GE199 := n3_; clear n0_ n1_ n2_ n3_; clear hb hbox hg))
            have n0_ := Aside0.mk (blk_drew BK199.out)
            have n1_ := Aside0.mk (below_drew1 HB.out)
            clear BK199
            clear HB
            have BK199 := n0_
            have HB := n1_
            clear n0_ n1_
            obtain ⟨i080, hi080, _, hsz80, _⟩ := info_parts info5
            obtain ⟨A80, hcut80, hA80, hC80⟩ := print_drop_of (P := Tryd.prog) (Value.int .u8) 0 25 5 .i64 Tryd.underlying25 hi080 hsz80 A0 c0 l0 380 (by omega) (of_decide_eq_true (by first | (with_reducible assumption) | assumption)) HC0.out
            have HR200 := Aside0.mk (Kd.C_of_reads (h1 := fun _ => rfl) (hA80 _ (Kd.reads_of_C HR0.out)))
            have HC200 := Aside0.mk hC80
            clear hA80 hC80 hi080 hsz80
            obtain ⟨i081, hi081, _, hsz81, _⟩ := info_parts info5
            obtain ⟨hcut81, hA81, hC81⟩ := print_take_of (P := Tryd.prog) (Value.int .u8) 0 25 5 .i64 Tryd.underlying25 hi081 hsz81 A0 c0 l0 380 (by omega) (of_decide_eq_true (by first | (with_reducible assumption) | assumption)) HC0.out
            have HR202 := Aside0.mk (Kd.C_of_reads (h1 := fun _ => rfl) (hA81 _ (Kd.reads_of_C HR0.out)))
            have HC202 := Aside0.mk hC81
            clear hA81 hC81 hi081 hsz81
            refine start_ (n := 9) (S := fun w' => True) (ds := []) #[false, false, false, false, false, false, false, false, false] (by kernel_rfl) rfl rfl trivial (fun hHeld => ?_); refine with_tabW undercroftref13_Open.tab3 undercroftref13_Open.bits3 (fun HT_ HW_ => ?_)
            generalize w78.drew = w79 at BK199 HB HR200 HR202 hHeld ⊢
            refine pure_ (i := 0) (N := some 18) (v := ?_) (a' := ?_) #[true, false, false, false, false, false, false, false, false] rfl rfl (any_of HT_.out (by kernel_rfl)) (fun _ _ _ h => h) (Or.inl ⟨by rfl, ?_⟩) ?_ ?_
            rotate_left
            · intro w'
              go_simp
              with_reducible rfl
            rotate_left
            · simp only [Act.put, List.setIfInBounds_toArray, List.set_cons_zero, List.set_cons_succ, i64_w, i32_w]
              rfl
            refine pure_ (i := 1) (N := some 19) (v := ?_) (a' := ?_) #[true, true, false, false, false, false, false, false, false] rfl rfl (any_of HT_.out (by kernel_rfl)) (fun _ _ _ h => h) (Or.inl ⟨by rfl, ?_⟩) ?_ ?_
            rotate_left
            · intro w'
              go_simp
              with_reducible rfl
            rotate_left
            · simp only [Act.put, List.setIfInBounds_toArray, List.set_cons_zero, List.set_cons_succ, i64_w, i32_w]
              rfl
            refine pure_ (i := 3) (N := some 21) (v := ?_) (a' := ?_) #[true, true, false, true, false, false, false, false, false] rfl rfl (any_of HT_.out (by kernel_rfl)) (fun _ _ _ h => h) (Or.inl ⟨by rfl, ?_⟩) ?_ ?_
            rotate_left
            · intro w'
              go_simp
              with_reducible rfl
            rotate_left
            · simp only [Act.put, List.setIfInBounds_toArray, List.set_cons_zero, List.set_cons_succ, i64_w, i32_w]
              rfl
            refine pure_ (i := 4) (N := some 22) (v := ?_) (a' := ?_) #[true, true, false, true, true, false, false, false, false] rfl rfl (any_of HT_.out (by kernel_rfl)) (fun _ _ _ h => h) (Or.inl ⟨by rfl, ?_⟩) ?_ ?_
            rotate_left
            · intro w'
              go_simp
              with_reducible rfl
            rotate_left
            · simp only [Act.put, List.setIfInBounds_toArray, List.set_cons_zero, List.set_cons_succ, i64_w, i32_w]
              rfl
            refine one_ (i := 2) (N := some 20) #[true, true, true, true, true, false, false, false, false] rfl rfl (one_of HT_.out (by kernel_rfl)) (by decide) (fun K hK => ?_)
            refine goes_ Tryd.func37 (by kernel_rfl) rfl #[.slice A80 (l0.drop 380).length (c0 - 380)] (by rfl) rfl rfl (by (try simp only [List.map_toArray, List.map_cons, List.map_nil]); first | done | (rw [show (l0.drop 380).length = (l0.length - 380) from List.length_drop] <;> rfl) | rfl | (simp only [List.length_drop, List.length_take]; rfl)) ?_
            with_reducible refine (undercroftref01_Number.calls k _ _ (l0.drop 380) t201 _ ?side1 ?side2 A4.out).mono ?_
            (case side1 => repeat (first | exact (Kd.C_below HR200.out HB.out) | (with_reducible refine Kd.C_alloc ?_ _) | (with_reducible refine Kd.C_drewN ?_ _) | (with_reducible refine Kd.C_drew ?_)))
            (case side2 => exact HC200.out)
            rintro e w' ⟨rfl, ⟨nd, rfl⟩⟩
            refine ⟨_, rfl, ?_⟩
            refine hK.out _ _ trivial (fun hHeld => ?_)
            clear hK K
            refine norm_ (a' := ?_) ?_ ?_
            rotate_left
            · show Act.put _ (some 20) _ = _
              simp only [Act.put, List.setIfInBounds_toArray, List.set_cons_zero, List.set_cons_succ, i64_w, i32_w]
              rfl
            refine one_ (i := 5) (N := some 23) #[true, true, true, true, true, true, false, false, false] rfl rfl (one_of HT_.out (by kernel_rfl)) (by decide) (fun K hK => ?_)
            refine goes_ Tryd.func36 (by kernel_rfl) rfl #[.slice A0 (l0.take 380).length c0] (by rfl) rfl rfl (by (try simp only [List.map_toArray, List.map_cons, List.map_nil]); first | done | (rw [show (l0.take 380).length = 380 from (by rw [List.length_take]; have h_ : (380 : Int) ≤ (l0.length : Int) := of_decide_eq_true (by first | (with_reducible assumption) | assumption); omega)] <;> rfl) | rfl | (simp only [List.length_drop, List.length_take]; rfl)) ?_
            with_reducible refine (undercroftref02_Sum.calls k _ _ (l0.take 380) t203 _ ?side1 ?side2 A6.out).mono ?_
            (case side1 => repeat (first | exact (Kd.C_below HR202.out (by repeat (first | (with_reducible first | exact HB.out | apply below_alloc | apply pw_below_drewN | apply below_drew1 | refine below_set ?_ GE199.out) | exact HB.out))) | (with_reducible refine Kd.C_alloc ?_ _) | (with_reducible refine Kd.C_drewN ?_ _) | (with_reducible refine Kd.C_drew ?_)))
            (case side2 => exact HC202.out)
            rintro e w' ⟨rfl, ⟨nd, rfl⟩⟩
            refine ⟨_, rfl, ?_⟩
            refine hK.out _ _ trivial (fun hHeld => ?_)
            clear hK K
            refine norm_ (a' := ?_) ?_ ?_
            rotate_left
            · show Act.put _ (some 23) _ = _
              simp only [Act.put, List.setIfInBounds_toArray, List.set_cons_zero, List.set_cons_succ, i64_w, i32_w]
              rfl
            refine pure_ (i := 6) (N := some 24) (v := ?_) (a' := ?_) #[true, true, true, true, true, true, true, false, false] rfl rfl (any_of HT_.out (by kernel_rfl)) (fun _ _ _ h => h) (Or.inl ⟨by rfl, ?_⟩) ?_ ?_
            rotate_left
            · intro w'
              go_simp
              with_reducible rfl
            rotate_left
            · simp only [Act.put, List.setIfInBounds_toArray, List.set_cons_zero, List.set_cons_succ, i64_w, i32_w]
              rfl
            refine pure_ (i := 7) (N := some 25) (v := ?_) (a' := ?_) #[true, true, true, true, true, true, true, true, false] rfl rfl (any_of HT_.out (by kernel_rfl)) (fun _ _ _ h => h) (Or.inl ⟨by rfl, ?_⟩) ?_ ?_
            rotate_left
            · intro w'
              go_simp
              with_reducible rfl
            rotate_left
            · simp only [Act.put, List.setIfInBounds_toArray, List.set_cons_zero, List.set_cons_succ, i64_w, i32_w]
              rfl
            refine pure_ (i := 8) (N := some 17) (v := ?_) (a' := ?_) #[true, true, true, true, true, true, true, true, true] rfl rfl (any_of HT_.out (by kernel_rfl)) (fun _ _ _ h => h) (Or.inl ⟨by rfl, ?_⟩) ?_ ?_
            rotate_left
            · intro w'
              go_simp
              with_reducible rfl
            rotate_left
            · simp only [Act.put, List.setIfInBounds_toArray, List.set_cons_zero, List.set_cons_succ, i64_w, i32_w]
              rfl
            refine done_ (done_of HT_.out (by kernel_rfl)) ?_
            obtain ⟨i082, hi082, _, hsz82, _⟩ := info_parts info5
            obtain ⟨hcut82, hA82, hC82⟩ := print_take_of (P := Tryd.prog) (Value.int .u8) 0 25 5 .i64 Tryd.underlying25 hi082 hsz82 A0 c0 l0 4 (by omega) (of_decide_eq_true (by first | (with_reducible assumption) | assumption)) HC0.out
            have HR204 := Aside0.mk (Kd.C_of_reads (h1 := fun _ => rfl) (hA82 _ (Kd.reads_of_C HR0.out)))
            have HC204 := Aside0.mk hC82
            clear hA82 hC82 hi082 hsz82
            have hcv83 : ∀ m_ : Nat, Sem.run Tryd.prog (convert 25 9 (Value.slice A0 (min 4 l0.length) c0)) (w79.drewN m_) = Result.ok (Value.string (strOfNums (List.take (Int.toNat 4) l0))) (w79.drewN m_) := fun m_ => by have h_ := Kd.C_string (P := Tryd.prog) (A := A0) (c := c0) Tryd.underlying25 Tryd.underlying5 Tryd.underlying9 (Kd.C_drewN (Kd.C_below HR204.out HB.out) m_); rw [show (List.take (Int.toNat 4) l0).length = min 4 l0.length from by rw [List.length_take]; rfl] at h_; exact h_
            have hcz84_0 : w79.cell? ⟨gb199, 0, none⟩ = some (.int .i64 0) := (blk_cell BK199.out 0).trans rfl
            have hcz84_1 : w79.cell? ⟨gb199, 1, none⟩ = some (.slice none 0 0) := (blk_cell BK199.out 1).trans rfl
            have hfz84_0 := blk_frozen BK199.out 0
            have hfz84_1 := blk_frozen BK199.out 1
            try go_wp2
            refine bodyPost_ret (results_ct rfl _ _ gb199 24 #[.int .i64 0, .slice none 0 0] (0, 0) _ rfl (by (with_reducible repeat (first | refine blk_drewN ?_ _ | refine blk_drew ?_ | refine blk_alloc ?_ _)); refine blk_put (cs := #[.int .i64 0, .slice none 0 0]) ?_ 1 _ rfl; (with_reducible repeat (first | refine blk_drewN ?_ _ | refine blk_drew ?_ | refine blk_alloc ?_ _)); refine blk_put (cs := #[.int .i64 0, .slice none 0 0]) ?_ 0 _ rfl; (with_reducible repeat (first | refine blk_drewN ?_ _ | refine blk_drew ?_ | refine blk_alloc ?_ _)); exact BK199.out) Tryd.underlying24 rfl (by kernel_rfl)) rfl ?_
            exact ⟨_, by first | rfl | (simp [errW_none, errW_some] <;> rfl) | (simp [*, errW_none, errW_some] <;> rfl) | (exfalso; simp only [beq_iff_eq, decide_eq_true_eq] at *; omega), by first | exact Kd.S_nil _ _ _ _ _ | exact Kd.N_nil _ _ _ _ _ | exact Kd.V_nil _ _ _ _ _ | exact Kd.Q_nil _ _ _ _ _ | exact Kd.R_nil _ _ _ _ _, by repeat (first | (with_reducible first | exact HB.out | apply below_alloc | apply pw_below_drewN | apply below_drew1 | refine below_set ?_ GE199.out) | exact HB.out)⟩
        · rw [if_neg c8] at H
          exact absurd H (by simp)
      · rw [if_neg c7] at H
        have c7b0 : (t201 == (IntKind.u64.wrap (t203))) = false := beq_eq_false_iff_ne.mpr c7
        have c7b1 : (t201 != (IntKind.u64.wrap (t203))) = true := bne_iff_ne.mpr c7
        simp only [Option.some.injEq, Prod.mk.injEq] at H
        obtain ⟨rfl, rfl, rfl⟩ := H
        go_enter Tryd.func19, Tryd.ntmps19
        try go_wp2_with (first | ((with_reducible refine gate_dst (N := 2) rfl ?_); refine box_event ?hg (N := 2) ?hd (cs := #[.int .i64 0, .slice none 0 0]) (t := 24) ?hr ?_; (case hd => rfl); (case hg => rfl); (case hr => first | (go_simp; done) | (go_simp; rfl)); intro gb199 hg w85 hbox hb; have n0_ := Aside0.mk (below_step (by repeat (first | (with_reducible first | exact HB.out | apply below_alloc | apply pw_below_drewN | apply below_drew1) | exact HB.out)) hb); have n1_ := Aside0.mk (hbox); have n2_ := Aside0.mk ((by rw [hg]; exact (below_size (by repeat (first | (with_reducible first | exact HB.out | apply below_alloc | apply pw_below_drewN | apply below_drew1) | exact HB.out))) : w.heap.size ≤ gb199)); have n3_ := Aside0.mk ((by rw [hg]; exact (below_size (by repeat (first | (with_reducible first | exact HB.out | apply below_alloc | apply pw_below_drewN | apply below_drew1) | exact HB.out))) : w.heap.size ≤ gb199)); clear HB; have HB := n0_; have BK199 := n1_; have GW199 := n2_; have GE199 := n3_; clear n0_ n1_ n2_ n3_; clear hb hbox hg))
        have n0_ := Aside0.mk (blk_drew BK199.out)
        have n1_ := Aside0.mk (below_drew1 HB.out)
        clear BK199
        clear HB
        have BK199 := n0_
        have HB := n1_
        clear n0_ n1_
        obtain ⟨i087, hi087, _, hsz87, _⟩ := info_parts info5
        obtain ⟨A87, hcut87, hA87, hC87⟩ := print_drop_of (P := Tryd.prog) (Value.int .u8) 0 25 5 .i64 Tryd.underlying25 hi087 hsz87 A0 c0 l0 380 (by omega) (of_decide_eq_true (by first | (with_reducible assumption) | assumption)) HC0.out
        have HR200 := Aside0.mk (Kd.C_of_reads (h1 := fun _ => rfl) (hA87 _ (Kd.reads_of_C HR0.out)))
        have HC200 := Aside0.mk hC87
        clear hA87 hC87 hi087 hsz87
        obtain ⟨i088, hi088, _, hsz88, _⟩ := info_parts info5
        obtain ⟨hcut88, hA88, hC88⟩ := print_take_of (P := Tryd.prog) (Value.int .u8) 0 25 5 .i64 Tryd.underlying25 hi088 hsz88 A0 c0 l0 380 (by omega) (of_decide_eq_true (by first | (with_reducible assumption) | assumption)) HC0.out
        have HR202 := Aside0.mk (Kd.C_of_reads (h1 := fun _ => rfl) (hA88 _ (Kd.reads_of_C HR0.out)))
        have HC202 := Aside0.mk hC88
        clear hA88 hC88 hi088 hsz88
        refine start_ (n := 9) (S := fun w' => True) (ds := []) #[false, false, false, false, false, false, false, false, false] (by kernel_rfl) rfl rfl trivial (fun hHeld => ?_); refine with_tabW undercroftref13_Open.tab3 undercroftref13_Open.bits3 (fun HT_ HW_ => ?_)
        generalize w85.drew = w86 at BK199 HB HR200 HR202 hHeld ⊢
        refine pure_ (i := 0) (N := some 18) (v := ?_) (a' := ?_) #[true, false, false, false, false, false, false, false, false] rfl rfl (any_of HT_.out (by kernel_rfl)) (fun _ _ _ h => h) (Or.inl ⟨by rfl, ?_⟩) ?_ ?_
        rotate_left
        · intro w'
          go_simp
          with_reducible rfl
        rotate_left
        · simp only [Act.put, List.setIfInBounds_toArray, List.set_cons_zero, List.set_cons_succ, i64_w, i32_w]
          rfl
        refine pure_ (i := 1) (N := some 19) (v := ?_) (a' := ?_) #[true, true, false, false, false, false, false, false, false] rfl rfl (any_of HT_.out (by kernel_rfl)) (fun _ _ _ h => h) (Or.inl ⟨by rfl, ?_⟩) ?_ ?_
        rotate_left
        · intro w'
          go_simp
          with_reducible rfl
        rotate_left
        · simp only [Act.put, List.setIfInBounds_toArray, List.set_cons_zero, List.set_cons_succ, i64_w, i32_w]
          rfl
        refine pure_ (i := 3) (N := some 21) (v := ?_) (a' := ?_) #[true, true, false, true, false, false, false, false, false] rfl rfl (any_of HT_.out (by kernel_rfl)) (fun _ _ _ h => h) (Or.inl ⟨by rfl, ?_⟩) ?_ ?_
        rotate_left
        · intro w'
          go_simp
          with_reducible rfl
        rotate_left
        · simp only [Act.put, List.setIfInBounds_toArray, List.set_cons_zero, List.set_cons_succ, i64_w, i32_w]
          rfl
        refine pure_ (i := 4) (N := some 22) (v := ?_) (a' := ?_) #[true, true, false, true, true, false, false, false, false] rfl rfl (any_of HT_.out (by kernel_rfl)) (fun _ _ _ h => h) (Or.inl ⟨by rfl, ?_⟩) ?_ ?_
        rotate_left
        · intro w'
          go_simp
          with_reducible rfl
        rotate_left
        · simp only [Act.put, List.setIfInBounds_toArray, List.set_cons_zero, List.set_cons_succ, i64_w, i32_w]
          rfl
        refine one_ (i := 2) (N := some 20) #[true, true, true, true, true, false, false, false, false] rfl rfl (one_of HT_.out (by kernel_rfl)) (by decide) (fun K hK => ?_)
        refine goes_ Tryd.func37 (by kernel_rfl) rfl #[.slice A87 (l0.drop 380).length (c0 - 380)] (by rfl) rfl rfl (by (try simp only [List.map_toArray, List.map_cons, List.map_nil]); first | done | (rw [show (l0.drop 380).length = (l0.length - 380) from List.length_drop] <;> rfl) | rfl | (simp only [List.length_drop, List.length_take]; rfl)) ?_
        with_reducible refine (undercroftref01_Number.calls k _ _ (l0.drop 380) t201 _ ?side1 ?side2 A4.out).mono ?_
        (case side1 => repeat (first | exact (Kd.C_below HR200.out HB.out) | (with_reducible refine Kd.C_alloc ?_ _) | (with_reducible refine Kd.C_drewN ?_ _) | (with_reducible refine Kd.C_drew ?_)))
        (case side2 => exact HC200.out)
        rintro e w' ⟨rfl, ⟨nd, rfl⟩⟩
        refine ⟨_, rfl, ?_⟩
        refine hK.out _ _ trivial (fun hHeld => ?_)
        clear hK K
        refine norm_ (a' := ?_) ?_ ?_
        rotate_left
        · show Act.put _ (some 20) _ = _
          simp only [Act.put, List.setIfInBounds_toArray, List.set_cons_zero, List.set_cons_succ, i64_w, i32_w]
          rfl
        refine one_ (i := 5) (N := some 23) #[true, true, true, true, true, true, false, false, false] rfl rfl (one_of HT_.out (by kernel_rfl)) (by decide) (fun K hK => ?_)
        refine goes_ Tryd.func36 (by kernel_rfl) rfl #[.slice A0 (l0.take 380).length c0] (by rfl) rfl rfl (by (try simp only [List.map_toArray, List.map_cons, List.map_nil]); first | done | (rw [show (l0.take 380).length = 380 from (by rw [List.length_take]; have h_ : (380 : Int) ≤ (l0.length : Int) := of_decide_eq_true (by first | (with_reducible assumption) | assumption); omega)] <;> rfl) | rfl | (simp only [List.length_drop, List.length_take]; rfl)) ?_
        with_reducible refine (undercroftref02_Sum.calls k _ _ (l0.take 380) t203 _ ?side1 ?side2 A6.out).mono ?_
        (case side1 => repeat (first | exact (Kd.C_below HR202.out (by repeat (first | (with_reducible first | exact HB.out | apply below_alloc | apply pw_below_drewN | apply below_drew1 | refine below_set ?_ GE199.out) | exact HB.out))) | (with_reducible refine Kd.C_alloc ?_ _) | (with_reducible refine Kd.C_drewN ?_ _) | (with_reducible refine Kd.C_drew ?_)))
        (case side2 => exact HC202.out)
        rintro e w' ⟨rfl, ⟨nd, rfl⟩⟩
        refine ⟨_, rfl, ?_⟩
        refine hK.out _ _ trivial (fun hHeld => ?_)
        clear hK K
        refine norm_ (a' := ?_) ?_ ?_
        rotate_left
        · show Act.put _ (some 23) _ = _
          simp only [Act.put, List.setIfInBounds_toArray, List.set_cons_zero, List.set_cons_succ, i64_w, i32_w]
          rfl
        refine pure_ (i := 6) (N := some 24) (v := ?_) (a' := ?_) #[true, true, true, true, true, true, true, false, false] rfl rfl (any_of HT_.out (by kernel_rfl)) (fun _ _ _ h => h) (Or.inl ⟨by rfl, ?_⟩) ?_ ?_
        rotate_left
        · intro w'
          go_simp
          with_reducible rfl
        rotate_left
        · simp only [Act.put, List.setIfInBounds_toArray, List.set_cons_zero, List.set_cons_succ, i64_w, i32_w]
          rfl
        refine pure_ (i := 7) (N := some 25) (v := ?_) (a' := ?_) #[true, true, true, true, true, true, true, true, false] rfl rfl (any_of HT_.out (by kernel_rfl)) (fun _ _ _ h => h) (Or.inl ⟨by rfl, ?_⟩) ?_ ?_
        rotate_left
        · intro w'
          go_simp
          with_reducible rfl
        rotate_left
        · simp only [Act.put, List.setIfInBounds_toArray, List.set_cons_zero, List.set_cons_succ, i64_w, i32_w]
          rfl
        refine pure_ (i := 8) (N := some 17) (v := ?_) (a' := ?_) #[true, true, true, true, true, true, true, true, true] rfl rfl (any_of HT_.out (by kernel_rfl)) (fun _ _ _ h => h) (Or.inl ⟨by rfl, ?_⟩) ?_ ?_
        rotate_left
        · intro w'
          go_simp
          with_reducible rfl
        rotate_left
        · simp only [Act.put, List.setIfInBounds_toArray, List.set_cons_zero, List.set_cons_succ, i64_w, i32_w]
          rfl
        refine done_ (done_of HT_.out (by kernel_rfl)) ?_
        have hcz89_0 : w86.cell? ⟨gb199, 0, none⟩ = some (.int .i64 0) := (blk_cell BK199.out 0).trans rfl
        have hcz89_1 : w86.cell? ⟨gb199, 1, none⟩ = some (.slice none 0 0) := (blk_cell BK199.out 1).trans rfl
        have hfz89_0 := blk_frozen BK199.out 0
        have hfz89_1 := blk_frozen BK199.out 1
        try go_wp2
        refine bodyPost_ret (results_ct rfl _ _ gb199 24 #[.int .i64 0, .slice none 0 0] (0, 0) _ rfl (by (with_reducible repeat (first | refine blk_drewN ?_ _ | refine blk_drew ?_ | refine blk_alloc ?_ _)); refine blk_put (cs := #[.int .i64 0, .slice none 0 0]) ?_ 1 _ rfl; (with_reducible repeat (first | refine blk_drewN ?_ _ | refine blk_drew ?_ | refine blk_alloc ?_ _)); refine blk_put (cs := #[.int .i64 0, .slice none 0 0]) ?_ 0 _ rfl; (with_reducible repeat (first | refine blk_drewN ?_ _ | refine blk_drew ?_ | refine blk_alloc ?_ _)); exact BK199.out) Tryd.underlying24 rfl (by kernel_rfl)) rfl ?_
        exact ⟨_, by first | rfl | (simp [errW_none, errW_some] <;> rfl) | (simp [*, errW_none, errW_some] <;> rfl) | (exfalso; simp only [beq_iff_eq, decide_eq_true_eq] at *; omega), by first | exact Kd.S_nil _ _ _ _ _ | exact Kd.N_nil _ _ _ _ _ | exact Kd.V_nil _ _ _ _ _ | exact Kd.Q_nil _ _ _ _ _ | exact Kd.R_nil _ _ _ _ _, by repeat (first | (with_reducible first | exact HB.out | apply below_alloc | apply pw_below_drewN | apply below_drew1 | refine below_set ?_ GE199.out) | exact HB.out)⟩
    · rw [if_neg c3] at H
      exact absurd H (by simp)
  · rw [if_neg c2] at H
    have c2b0 : ((l0.length : Int) == 384) = false := beq_eq_false_iff_ne.mpr c2
    have c2b1 : ((l0.length : Int) != 384) = true := bne_iff_ne.mpr c2
    simp only [Option.some.injEq, Prod.mk.injEq] at H
    obtain ⟨rfl, rfl, rfl⟩ := H
    go_enter Tryd.func19, Tryd.ntmps19
    go_wp2_with (first | ((with_reducible refine gate_dst (N := 2) rfl ?_); refine box_event ?hg (N := 2) ?hd (cs := #[.int .i64 0, .slice none 0 0]) (t := 24) ?hr ?_; (case hd => rfl); (case hg => rfl); (case hr => first | (go_simp; done) | (go_simp; rfl)); intro gb199 hg w90 hbox hb; have n0_ := Aside0.mk (below_step (by repeat (first | (with_reducible first | exact HB.out | apply below_alloc | apply pw_below_drewN | apply below_drew1) | exact HB.out)) hb); have n1_ := Aside0.mk (hbox); have n2_ := Aside0.mk ((by rw [hg]; exact (below_size (by repeat (first | (with_reducible first | exact HB.out | apply below_alloc | apply pw_below_drewN | apply below_drew1) | exact HB.out))) : w.heap.size ≤ gb199)); have n3_ := Aside0.mk ((by rw [hg]; exact (below_size (by repeat (first | (with_reducible first | exact HB.out | apply below_alloc | apply pw_below_drewN | apply below_drew1) | exact HB.out))) : w.heap.size ≤ gb199)); clear HB; have HB := n0_; have BK199 := n1_; have GW199 := n2_; have GE199 := n3_; clear n0_ n1_ n2_ n3_; clear hb hbox hg; have hcz91_0 : w90.cell? ⟨gb199, 0, none⟩ = some (.int .i64 0) := (blk_cell BK199.out 0).trans rfl; have hcz91_1 : w90.cell? ⟨gb199, 1, none⟩ = some (.slice none 0 0) := (blk_cell BK199.out 1).trans rfl; have hfz91_0 := blk_frozen BK199.out 0; have hfz91_1 := blk_frozen BK199.out 1))
    refine bodyPost_ret (results_ct rfl _ _ gb199 24 #[.int .i64 0, .slice none 0 0] (0, 0) _ rfl (by (with_reducible repeat (first | refine blk_drewN ?_ _ | refine blk_drew ?_ | refine blk_alloc ?_ _)); refine blk_put (cs := #[.int .i64 0, .slice none 0 0]) ?_ 1 _ rfl; (with_reducible repeat (first | refine blk_drewN ?_ _ | refine blk_drew ?_ | refine blk_alloc ?_ _)); refine blk_put (cs := #[.int .i64 0, .slice none 0 0]) ?_ 0 _ rfl; (with_reducible repeat (first | refine blk_drewN ?_ _ | refine blk_drew ?_ | refine blk_alloc ?_ _)); exact BK199.out) Tryd.underlying24 rfl (by kernel_rfl)) rfl ?_
    exact ⟨_, by first | rfl | (simp [errW_none, errW_some] <;> rfl) | (simp [*, errW_none, errW_some] <;> rfl) | (exfalso; simp only [beq_iff_eq, decide_eq_true_eq] at *; omega), by first | exact Kd.S_nil _ _ _ _ _ | exact Kd.N_nil _ _ _ _ _ | exact Kd.V_nil _ _ _ _ _ | exact Kd.Q_nil _ _ _ _ _ | exact Kd.R_nil _ _ _ _ _, by repeat (first | (with_reducible first | exact HB.out | apply below_alloc | apply pw_below_drewN | apply below_drew1 | refine below_set ?_ GE199.out) | exact HB.out)⟩

end Go.Proofs.YtokjiinlhghggaaDoor.PTel
