-- Written by a program of this session (gen.py).
import Derived.Test.YtomebhohkonhlaaDoorPFtxx0
import Derived.Test.YtomebhohkonhlaaDoorPFtxx3
import Derived.Test.YtomebhohkonhlaaDoorPFtxx4
namespace Go.Proofs.YtomebhohkonhlaaDoor.PFtx
open Go.RowKit Go.Proofs.YtomebhohkonhlaaDoorW.PrintWords Go.Proofs.YtomebhohkonhlaaDoorW.PrintLast Go.Proofs.YtomebhohkonhlaaDoorW.PrintMore
open Go.Proofs.YtomebhohkonhlaaDoor.Own
attribute [local go_sem high] unary_not_u32 unary_not_u64 unary_not_u8 string_leq_ string_gtr_
attribute [local go_sem] max2_int min2_int max_two min_two max_three min_three max_four min_four   -- for this text's walks alone
set_option linter.unusedVariables false
set_option linter.unusedSimpArgs false

/-- A region's mask: the bits of 'm'. -/
def bm (n m : Nat) : Array Bool := ((List.range n).map m.testBit).toArray
/-! ### undercroftlaw07_FileText: function 5 -/
mutual
def undercroftlaw07_FileText.l0 : Nat → List (S49) → Int → Int → List Int → Int → Int → List (S39) → Option (Bool)
  | 0, _, _, _, _, _, _, _ => none
  | k + 1, x0, x1, x2, x8, x9, x132000, x132001 => if x9 < (x0.length : Int) then (undercroftlaw07_FileText.j1 k x0 x1 x2 x8 x9 (decide (x9 < 60)) x132000 x132001) else (undercroftlaw07_FileText.j1 k x0 x1 x2 x8 x9 false x132000 x132001)
def undercroftlaw07_FileText.j1 : Nat → List (S49) → Int → Int → List Int → Int → Bool → Int → List (S39) → Option (Bool)
  | 0, _, _, _, _, _, _, _, _ => none
  | k + 1, x0, x1, x2, x8, x9, x27, x132000, x132001 => if x27 = true then (if 0 ≤ x9 then (if x9 < (x0.length : Int) then (if ((rd_T49 x0 x9).f0) = 0 then ((file_Write.f x132000 x132001 ((rd_T49 x0 x9).f1) ((rd_T49 x0 x9).f2)).bind fun bt136 => (undercroftlaw07_FileText.j2 k x0 x1 x2 x8 x9 bt136.2.2 x132000 x132001 bt136.1 bt136.2.1)) else ((file_Truncate.f x132000 x132001 ((rd_T49 x0 x9).f1)).bind fun bt142 => (undercroftlaw07_FileText.j2 k x0 x1 x2 x8 x9 bt142.2.2 x132000 x132001 bt142.1 bt142.2.1))) else (none)) else (none)) else ((file_Read.f x132000 x132001 0 5000).bind fun bt179 => ((file_Read.f x132000 x132001 x1 x2).bind fun bt183 => ((undercroftlaw07_num.f bt179.2).bind fun t187 => (if t187 = 0 then (if x132000 = (x8.length : Int) then ((undercroftplain_SameBytes.f k bt179.1 x8).bind fun t188 => (undercroftlaw07_FileText.j6 k x1 x2 x8 bt183.1 bt183.2 (!t188))) else (undercroftlaw07_FileText.j6 k x1 x2 x8 bt183.1 bt183.2 true)) else (undercroftlaw07_FileText.j6 k x1 x2 x8 bt183.1 bt183.2 true)))))
def undercroftlaw07_FileText.j2 : Nat → List (S49) → Int → Int → List Int → Int → Int → Int → List (S39) → Int → List (S39) → Option (Bool)
  | 0, _, _, _, _, _, _, _, _, _, _ => none
  | k + 1, x0, x1, x2, x8, x9, x11, x132000, x132001, x133000, x133001 => (undercroftlaw07_num.f x11).bind fun t147 => (if t147 = 0 then (if 0 ≤ x9 then (if x9 < (x0.length : Int) then (if ((rd_T49 x0 x9).f0) = 0 then (undercroftlaw07_FileText.j3 k x0 x1 x2 x8 x9 ((((rd_T49 x0 x9).f2).length : Int) == 0) x133000 x133001) else (undercroftlaw07_FileText.j3 k x0 x1 x2 x8 x9 false x133000 x133001)) else (none)) else (none)) else (if 0 ≤ x9 then (if x9 < (x0.length : Int) then (if ((rd_T49 x0 x9).f1) ≥ 0 then (if ((rd_T49 x0 x9).f1) ≤ 2432 then (if ((rd_T49 x0 x9).f0) = 0 then (if (((rd_T49 x0 x9).f2).length : Int) ≤ (wrap64 (2432 - ((rd_T49 x0 x9).f1))) then (some false) else (undercroftlaw07_FileText.l0 k x0 x1 x2 x8 (wrap64 (x9 + 1)) x132000 x132001)) else (some false)) else (undercroftlaw07_FileText.l0 k x0 x1 x2 x8 (wrap64 (x9 + 1)) x132000 x132001)) else (undercroftlaw07_FileText.l0 k x0 x1 x2 x8 (wrap64 (x9 + 1)) x132000 x132001)) else (none)) else (none)))
def undercroftlaw07_FileText.j3 : Nat → List (S49) → Int → Int → List Int → Int → Bool → Int → List (S39) → Option (Bool)
  | 0, _, _, _, _, _, _, _, _ => none
  | k + 1, x0, x1, x2, x8, x9, x117, x132000, x132001 => if x117 = true then (undercroftlaw07_FileText.l0 k x0 x1 x2 x8 (wrap64 (x9 + 1)) x132000 x132001) else (undercroftlaw07_FileText.l1 k x0 x1 x2 x8 x9 x132000 x132001)
def undercroftlaw07_FileText.l1 : Nat → List (S49) → Int → Int → List Int → Int → Int → List (S39) → Option (Bool)
  | 0, _, _, _, _, _, _, _ => none
  | k + 1, x0, x1, x2, x8, x9, x132000, x132001 => if 0 ≤ x9 then (if x9 < (x0.length : Int) then (if (x8.length : Int) < ((rd_T49 x0 x9).f1) then (if x8.length < 140737488355328 then (undercroftlaw07_FileText.l1 k x0 x1 x2 (x8 ++ [0]) x9 x132000 x132001) else (none)) else (if ((rd_T49 x0 x9).f0) = 0 then (undercroftlaw07_FileText.l2 k x0 x1 x2 x8 x9 0 x132000 x132001) else (if 0 ≤ ((rd_T49 x0 x9).f1) then (if ((rd_T49 x0 x9).f1) ≤ (x8.length : Int) then ((undercroftplain_CopyBytes.f (x8.take (((rd_T49 x0 x9).f1) : Int).toNat)).bind fun t165 => (undercroftlaw07_FileText.l0 k x0 x1 x2 t165 (wrap64 (x9 + 1)) x132000 x132001)) else (none)) else (none)))) else (none)) else (none)
def undercroftlaw07_FileText.l2 : Nat → List (S49) → Int → Int → List Int → Int → Int → Int → List (S39) → Option (Bool)
  | 0, _, _, _, _, _, _, _, _ => none
  | k + 1, x0, x1, x2, x8, x9, x12, x132000, x132001 => if 0 ≤ x9 then (if x9 < (x0.length : Int) then (if x12 < (((rd_T49 x0 x9).f2).length : Int) then (if (wrap64 (((rd_T49 x0 x9).f1) + x12)) < (x8.length : Int) then (if 0 ≤ x12 then (if 0 ≤ (wrap64 (((rd_T49 x0 x9).f1) + x12)) then (undercroftlaw07_FileText.l2 k x0 x1 x2 (x8.set ((wrap64 (((rd_T49 x0 x9).f1) + x12)) : Int).toNat (rd ((rd_T49 x0 x9).f2) x12)) x9 (wrap64 (x12 + 1)) x132000 x132001) else (none)) else (none)) else (if 0 ≤ x12 then (if x8.length < 140737488355328 then (undercroftlaw07_FileText.l2 k x0 x1 x2 (x8 ++ [rd ((rd_T49 x0 x9).f2) x12]) x9 (wrap64 (x12 + 1)) x132000 x132001) else (none)) else (none))) else (undercroftlaw07_FileText.l0 k x0 x1 x2 x8 (wrap64 (x9 + 1)) x132000 x132001)) else (none)) else (none)
def undercroftlaw07_FileText.j6 : Nat → Int → Int → List Int → List Int → Int → Bool → Option (Bool)
  | 0, _, _, _, _, _, _ => none
  | k + 1, x1, x2, x8, x15, x16, x218 => if x218 = true then (some false) else (if x1 < 0 then (undercroftlaw07_FileText.j7 k x1 x2 x8 x15 x16 true) else (undercroftlaw07_FileText.j7 k x1 x2 x8 x15 x16 (decide (x2 < 0))))
def undercroftlaw07_FileText.j7 : Nat → Int → Int → List Int → List Int → Int → Bool → Option (Bool)
  | 0, _, _, _, _, _, _ => none
  | k + 1, x1, x2, x8, x15, x16, x224 => if x224 = true then ((undercroftlaw07_num.f x16).bind fun t189 => (if t189 = 4 then (some ((x15.length : Int) == 0)) else (some false))) else ((undercroftlaw07_num.f x16).bind fun t190 => (if t190 = 0 then (if 0 ≤ (mn x1 (x8.length : Int)) then (if (mn x1 (x8.length : Int)) ≤ (wrap64 ((mn x1 (x8.length : Int)) + (mn x2 (wrap64 ((x8.length : Int) - (mn x1 (x8.length : Int))))))) then (if (wrap64 ((mn x1 (x8.length : Int)) + (mn x2 (wrap64 ((x8.length : Int) - (mn x1 (x8.length : Int))))))) ≤ (x8.length : Int) then ((undercroftplain_SameBytes.f k x15 ((x8.take ((wrap64 ((mn x1 (x8.length : Int)) + (mn x2 (wrap64 ((x8.length : Int) - (mn x1 (x8.length : Int))))))) : Int).toNat).drop ((mn x1 (x8.length : Int)) : Int).toNat)).bind fun t195 => (some t195)) else (none)) else (none)) else (none)) else (some false)))
end
def undercroftlaw07_FileText.f (k : Nat) (l0 : List (S49)) (a1 : Int) (a2 : Int) : Option (Bool) := (undercroftlaw07_alive.f).bind fun t130 => (if t130 = true then (undercroftlaw07_FileText.l0 k l0 a1 a2 ([] : List Int) 0 0 ([] : List (S39))) else (some false))
theorem undercroftlaw07_FileText.mono_l : ∀ k, (∀ y0 y1 y2 y3 y4 y5 y6, LeO (undercroftlaw07_FileText.l0 k y0 y1 y2 y3 y4 y5 y6) (undercroftlaw07_FileText.l0 (k + 1) y0 y1 y2 y3 y4 y5 y6)) ∧ (∀ y0 y1 y2 y3 y4 y5 y6 y7, LeO (undercroftlaw07_FileText.j1 k y0 y1 y2 y3 y4 y5 y6 y7) (undercroftlaw07_FileText.j1 (k + 1) y0 y1 y2 y3 y4 y5 y6 y7)) ∧ (∀ y0 y1 y2 y3 y4 y5 y6 y7 y8 y9, LeO (undercroftlaw07_FileText.j2 k y0 y1 y2 y3 y4 y5 y6 y7 y8 y9) (undercroftlaw07_FileText.j2 (k + 1) y0 y1 y2 y3 y4 y5 y6 y7 y8 y9)) ∧ (∀ y0 y1 y2 y3 y4 y5 y6 y7, LeO (undercroftlaw07_FileText.j3 k y0 y1 y2 y3 y4 y5 y6 y7) (undercroftlaw07_FileText.j3 (k + 1) y0 y1 y2 y3 y4 y5 y6 y7)) ∧ (∀ y0 y1 y2 y3 y4 y5 y6, LeO (undercroftlaw07_FileText.l1 k y0 y1 y2 y3 y4 y5 y6) (undercroftlaw07_FileText.l1 (k + 1) y0 y1 y2 y3 y4 y5 y6)) ∧ (∀ y0 y1 y2 y3 y4 y5 y6 y7, LeO (undercroftlaw07_FileText.l2 k y0 y1 y2 y3 y4 y5 y6 y7) (undercroftlaw07_FileText.l2 (k + 1) y0 y1 y2 y3 y4 y5 y6 y7)) ∧ (∀ y0 y1 y2 y3 y4 y5, LeO (undercroftlaw07_FileText.j6 k y0 y1 y2 y3 y4 y5) (undercroftlaw07_FileText.j6 (k + 1) y0 y1 y2 y3 y4 y5)) ∧ (∀ y0 y1 y2 y3 y4 y5, LeO (undercroftlaw07_FileText.j7 k y0 y1 y2 y3 y4 y5) (undercroftlaw07_FileText.j7 (k + 1) y0 y1 y2 y3 y4 y5))
  | 0 => ⟨fun _ _ _ _ _ _ _ r h => by simp [undercroftlaw07_FileText.l0] at h, fun _ _ _ _ _ _ _ _ r h => by simp [undercroftlaw07_FileText.j1] at h, fun _ _ _ _ _ _ _ _ _ _ r h => by simp [undercroftlaw07_FileText.j2] at h, fun _ _ _ _ _ _ _ _ r h => by simp [undercroftlaw07_FileText.j3] at h, fun _ _ _ _ _ _ _ r h => by simp [undercroftlaw07_FileText.l1] at h, fun _ _ _ _ _ _ _ _ r h => by simp [undercroftlaw07_FileText.l2] at h, fun _ _ _ _ _ _ r h => by simp [undercroftlaw07_FileText.j6] at h, fun _ _ _ _ _ _ r h => by simp [undercroftlaw07_FileText.j7] at h⟩
  | k + 1 => by
    obtain ⟨ih0, ih1, ih2, ih3, ih4, ih5, ih6, ih7⟩ := undercroftlaw07_FileText.mono_l k
    refine ⟨?_, ?_, ?_, ?_, ?_, ?_, ?_, ?_⟩
    · intro y0 y1 y2 y3 y4 y5 y6
      unfold undercroftlaw07_FileText.l0
      repeat' first
      | (with_reducible exact ih0 _ _ _ _ _ _ _)
      | (with_reducible exact ih1 _ _ _ _ _ _ _ _)
      | (with_reducible exact ih2 _ _ _ _ _ _ _ _ _ _)
      | (with_reducible exact ih3 _ _ _ _ _ _ _ _)
      | (with_reducible exact ih4 _ _ _ _ _ _ _)
      | (with_reducible exact ih5 _ _ _ _ _ _ _ _)
      | (with_reducible exact ih6 _ _ _ _ _ _)
      | (with_reducible exact ih7 _ _ _ _ _ _)
      | (with_reducible exact undercroftplain_SameBytes.mono _ _ _)
      | (with_reducible exact LeO.refl _)
      | (with_reducible exact LeO.none _)
      | (with_reducible refine LeO.ite ?_ ?_)
      | (with_reducible refine LeO.bind ?_ (fun _ => ?_))
      | exact ih0 _ _ _ _ _ _ _
      | exact ih1 _ _ _ _ _ _ _ _
      | exact ih2 _ _ _ _ _ _ _ _ _ _
      | exact ih3 _ _ _ _ _ _ _ _
      | exact ih4 _ _ _ _ _ _ _
      | exact ih5 _ _ _ _ _ _ _ _
      | exact ih6 _ _ _ _ _ _
      | exact ih7 _ _ _ _ _ _
      | exact undercroftplain_SameBytes.mono _ _ _
      | exact LeO.none _
      | refine LeO.ite ?_ ?_
      | refine LeO.bind ?_ (fun _ => ?_)
    · intro y0 y1 y2 y3 y4 y5 y6 y7
      unfold undercroftlaw07_FileText.j1
      repeat' first
      | (with_reducible exact ih0 _ _ _ _ _ _ _)
      | (with_reducible exact ih1 _ _ _ _ _ _ _ _)
      | (with_reducible exact ih2 _ _ _ _ _ _ _ _ _ _)
      | (with_reducible exact ih3 _ _ _ _ _ _ _ _)
      | (with_reducible exact ih4 _ _ _ _ _ _ _)
      | (with_reducible exact ih5 _ _ _ _ _ _ _ _)
      | (with_reducible exact ih6 _ _ _ _ _ _)
      | (with_reducible exact ih7 _ _ _ _ _ _)
      | (with_reducible exact undercroftplain_SameBytes.mono _ _ _)
      | (with_reducible exact LeO.refl _)
      | (with_reducible exact LeO.none _)
      | (with_reducible refine LeO.ite ?_ ?_)
      | (with_reducible refine LeO.bind ?_ (fun _ => ?_))
      | exact ih0 _ _ _ _ _ _ _
      | exact ih1 _ _ _ _ _ _ _ _
      | exact ih2 _ _ _ _ _ _ _ _ _ _
      | exact ih3 _ _ _ _ _ _ _ _
      | exact ih4 _ _ _ _ _ _ _
      | exact ih5 _ _ _ _ _ _ _ _
      | exact ih6 _ _ _ _ _ _
      | exact ih7 _ _ _ _ _ _
      | exact undercroftplain_SameBytes.mono _ _ _
      | exact LeO.none _
      | refine LeO.ite ?_ ?_
      | refine LeO.bind ?_ (fun _ => ?_)
    · intro y0 y1 y2 y3 y4 y5 y6 y7 y8 y9
      unfold undercroftlaw07_FileText.j2
      repeat' first
      | (with_reducible exact ih0 _ _ _ _ _ _ _)
      | (with_reducible exact ih1 _ _ _ _ _ _ _ _)
      | (with_reducible exact ih2 _ _ _ _ _ _ _ _ _ _)
      | (with_reducible exact ih3 _ _ _ _ _ _ _ _)
      | (with_reducible exact ih4 _ _ _ _ _ _ _)
      | (with_reducible exact ih5 _ _ _ _ _ _ _ _)
      | (with_reducible exact ih6 _ _ _ _ _ _)
      | (with_reducible exact ih7 _ _ _ _ _ _)
      | (with_reducible exact undercroftplain_SameBytes.mono _ _ _)
      | (with_reducible exact LeO.refl _)
      | (with_reducible exact LeO.none _)
      | (with_reducible refine LeO.ite ?_ ?_)
      | (with_reducible refine LeO.bind ?_ (fun _ => ?_))
      | exact ih0 _ _ _ _ _ _ _
      | exact ih1 _ _ _ _ _ _ _ _
      | exact ih2 _ _ _ _ _ _ _ _ _ _
      | exact ih3 _ _ _ _ _ _ _ _
      | exact ih4 _ _ _ _ _ _ _
      | exact ih5 _ _ _ _ _ _ _ _
      | exact ih6 _ _ _ _ _ _
      | exact ih7 _ _ _ _ _ _
      | exact undercroftplain_SameBytes.mono _ _ _
      | exact LeO.none _
      | refine LeO.ite ?_ ?_
      | refine LeO.bind ?_ (fun _ => ?_)
    · intro y0 y1 y2 y3 y4 y5 y6 y7
      unfold undercroftlaw07_FileText.j3
      repeat' first
      | (with_reducible exact ih0 _ _ _ _ _ _ _)
      | (with_reducible exact ih1 _ _ _ _ _ _ _ _)
      | (with_reducible exact ih2 _ _ _ _ _ _ _ _ _ _)
      | (with_reducible exact ih3 _ _ _ _ _ _ _ _)
      | (with_reducible exact ih4 _ _ _ _ _ _ _)
      | (with_reducible exact ih5 _ _ _ _ _ _ _ _)
      | (with_reducible exact ih6 _ _ _ _ _ _)
      | (with_reducible exact ih7 _ _ _ _ _ _)
      | (with_reducible exact undercroftplain_SameBytes.mono _ _ _)
      | (with_reducible exact LeO.refl _)
      | (with_reducible exact LeO.none _)
      | (with_reducible refine LeO.ite ?_ ?_)
      | (with_reducible refine LeO.bind ?_ (fun _ => ?_))
      | exact ih0 _ _ _ _ _ _ _
      | exact ih1 _ _ _ _ _ _ _ _
      | exact ih2 _ _ _ _ _ _ _ _ _ _
      | exact ih3 _ _ _ _ _ _ _ _
      | exact ih4 _ _ _ _ _ _ _
      | exact ih5 _ _ _ _ _ _ _ _
      | exact ih6 _ _ _ _ _ _
      | exact ih7 _ _ _ _ _ _
      | exact undercroftplain_SameBytes.mono _ _ _
      | exact LeO.none _
      | refine LeO.ite ?_ ?_
      | refine LeO.bind ?_ (fun _ => ?_)
    · intro y0 y1 y2 y3 y4 y5 y6
      unfold undercroftlaw07_FileText.l1
      repeat' first
      | (with_reducible exact ih0 _ _ _ _ _ _ _)
      | (with_reducible exact ih1 _ _ _ _ _ _ _ _)
      | (with_reducible exact ih2 _ _ _ _ _ _ _ _ _ _)
      | (with_reducible exact ih3 _ _ _ _ _ _ _ _)
      | (with_reducible exact ih4 _ _ _ _ _ _ _)
      | (with_reducible exact ih5 _ _ _ _ _ _ _ _)
      | (with_reducible exact ih6 _ _ _ _ _ _)
      | (with_reducible exact ih7 _ _ _ _ _ _)
      | (with_reducible exact undercroftplain_SameBytes.mono _ _ _)
      | (with_reducible exact LeO.refl _)
      | (with_reducible exact LeO.none _)
      | (with_reducible refine LeO.ite ?_ ?_)
      | (with_reducible refine LeO.bind ?_ (fun _ => ?_))
      | exact ih0 _ _ _ _ _ _ _
      | exact ih1 _ _ _ _ _ _ _ _
      | exact ih2 _ _ _ _ _ _ _ _ _ _
      | exact ih3 _ _ _ _ _ _ _ _
      | exact ih4 _ _ _ _ _ _ _
      | exact ih5 _ _ _ _ _ _ _ _
      | exact ih6 _ _ _ _ _ _
      | exact ih7 _ _ _ _ _ _
      | exact undercroftplain_SameBytes.mono _ _ _
      | exact LeO.none _
      | refine LeO.ite ?_ ?_
      | refine LeO.bind ?_ (fun _ => ?_)
    · intro y0 y1 y2 y3 y4 y5 y6 y7
      unfold undercroftlaw07_FileText.l2
      repeat' first
      | (with_reducible exact ih0 _ _ _ _ _ _ _)
      | (with_reducible exact ih1 _ _ _ _ _ _ _ _)
      | (with_reducible exact ih2 _ _ _ _ _ _ _ _ _ _)
      | (with_reducible exact ih3 _ _ _ _ _ _ _ _)
      | (with_reducible exact ih4 _ _ _ _ _ _ _)
      | (with_reducible exact ih5 _ _ _ _ _ _ _ _)
      | (with_reducible exact ih6 _ _ _ _ _ _)
      | (with_reducible exact ih7 _ _ _ _ _ _)
      | (with_reducible exact undercroftplain_SameBytes.mono _ _ _)
      | (with_reducible exact LeO.refl _)
      | (with_reducible exact LeO.none _)
      | (with_reducible refine LeO.ite ?_ ?_)
      | (with_reducible refine LeO.bind ?_ (fun _ => ?_))
      | exact ih0 _ _ _ _ _ _ _
      | exact ih1 _ _ _ _ _ _ _ _
      | exact ih2 _ _ _ _ _ _ _ _ _ _
      | exact ih3 _ _ _ _ _ _ _ _
      | exact ih4 _ _ _ _ _ _ _
      | exact ih5 _ _ _ _ _ _ _ _
      | exact ih6 _ _ _ _ _ _
      | exact ih7 _ _ _ _ _ _
      | exact undercroftplain_SameBytes.mono _ _ _
      | exact LeO.none _
      | refine LeO.ite ?_ ?_
      | refine LeO.bind ?_ (fun _ => ?_)
    · intro y0 y1 y2 y3 y4 y5
      unfold undercroftlaw07_FileText.j6
      repeat' first
      | (with_reducible exact ih0 _ _ _ _ _ _ _)
      | (with_reducible exact ih1 _ _ _ _ _ _ _ _)
      | (with_reducible exact ih2 _ _ _ _ _ _ _ _ _ _)
      | (with_reducible exact ih3 _ _ _ _ _ _ _ _)
      | (with_reducible exact ih4 _ _ _ _ _ _ _)
      | (with_reducible exact ih5 _ _ _ _ _ _ _ _)
      | (with_reducible exact ih6 _ _ _ _ _ _)
      | (with_reducible exact ih7 _ _ _ _ _ _)
      | (with_reducible exact undercroftplain_SameBytes.mono _ _ _)
      | (with_reducible exact LeO.refl _)
      | (with_reducible exact LeO.none _)
      | (with_reducible refine LeO.ite ?_ ?_)
      | (with_reducible refine LeO.bind ?_ (fun _ => ?_))
      | exact ih0 _ _ _ _ _ _ _
      | exact ih1 _ _ _ _ _ _ _ _
      | exact ih2 _ _ _ _ _ _ _ _ _ _
      | exact ih3 _ _ _ _ _ _ _ _
      | exact ih4 _ _ _ _ _ _ _
      | exact ih5 _ _ _ _ _ _ _ _
      | exact ih6 _ _ _ _ _ _
      | exact ih7 _ _ _ _ _ _
      | exact undercroftplain_SameBytes.mono _ _ _
      | exact LeO.none _
      | refine LeO.ite ?_ ?_
      | refine LeO.bind ?_ (fun _ => ?_)
    · intro y0 y1 y2 y3 y4 y5
      unfold undercroftlaw07_FileText.j7
      repeat' first
      | (with_reducible exact ih0 _ _ _ _ _ _ _)
      | (with_reducible exact ih1 _ _ _ _ _ _ _ _)
      | (with_reducible exact ih2 _ _ _ _ _ _ _ _ _ _)
      | (with_reducible exact ih3 _ _ _ _ _ _ _ _)
      | (with_reducible exact ih4 _ _ _ _ _ _ _)
      | (with_reducible exact ih5 _ _ _ _ _ _ _ _)
      | (with_reducible exact ih6 _ _ _ _ _ _)
      | (with_reducible exact ih7 _ _ _ _ _ _)
      | (with_reducible exact undercroftplain_SameBytes.mono _ _ _)
      | (with_reducible exact LeO.refl _)
      | (with_reducible exact LeO.none _)
      | (with_reducible refine LeO.ite ?_ ?_)
      | (with_reducible refine LeO.bind ?_ (fun _ => ?_))
      | exact ih0 _ _ _ _ _ _ _
      | exact ih1 _ _ _ _ _ _ _ _
      | exact ih2 _ _ _ _ _ _ _ _ _ _
      | exact ih3 _ _ _ _ _ _ _ _
      | exact ih4 _ _ _ _ _ _ _
      | exact ih5 _ _ _ _ _ _ _ _
      | exact ih6 _ _ _ _ _ _
      | exact ih7 _ _ _ _ _ _
      | exact undercroftplain_SameBytes.mono _ _ _
      | exact LeO.none _
      | refine LeO.ite ?_ ?_
      | refine LeO.bind ?_ (fun _ => ?_)
theorem undercroftlaw07_FileText.mono : ∀ a0 a1 a2 k, LeO (undercroftlaw07_FileText.f k a0 a1 a2) (undercroftlaw07_FileText.f (k + 1) a0 a1 a2) := by
  intro a0 a1 a2 k
  obtain ⟨ih0, ih1, ih2, ih3, ih4, ih5, ih6, ih7⟩ := undercroftlaw07_FileText.mono_l k
  unfold undercroftlaw07_FileText.f
  repeat' first
      | (with_reducible exact ih0 _ _ _ _ _ _ _)
      | (with_reducible exact ih1 _ _ _ _ _ _ _ _)
      | (with_reducible exact ih2 _ _ _ _ _ _ _ _ _ _)
      | (with_reducible exact ih3 _ _ _ _ _ _ _ _)
      | (with_reducible exact ih4 _ _ _ _ _ _ _)
      | (with_reducible exact ih5 _ _ _ _ _ _ _ _)
      | (with_reducible exact ih6 _ _ _ _ _ _)
      | (with_reducible exact ih7 _ _ _ _ _ _)
      | (with_reducible exact undercroftplain_SameBytes.mono _ _ _)
      | (with_reducible exact LeO.refl _)
      | (with_reducible exact LeO.none _)
      | (with_reducible refine LeO.ite ?_ ?_)
      | (with_reducible refine LeO.bind ?_ (fun _ => ?_))
      | exact ih0 _ _ _ _ _ _ _
      | exact ih1 _ _ _ _ _ _ _ _
      | exact ih2 _ _ _ _ _ _ _ _ _ _
      | exact ih3 _ _ _ _ _ _ _ _
      | exact ih4 _ _ _ _ _ _ _
      | exact ih5 _ _ _ _ _ _ _ _
      | exact ih6 _ _ _ _ _ _
      | exact ih7 _ _ _ _ _ _
      | exact undercroftplain_SameBytes.mono _ _ _
      | exact LeO.none _
      | refine LeO.ite ?_ ?_
      | refine LeO.bind ?_ (fun _ => ?_)
def undercroftlaw07_FileText.T10 : Bool × List (List Nat × List Nat) := (true, [([], []), ([], []), ([], []), ([1, 2], [1, 2]), ([3], [3]), ([4], [4]), ([], []), ([], []), ([6, 7], [6, 7]), ([8], [8]), ([9], [9]), ([0, 5, 10], [0, 5, 10]), ([11], [11]), ([12], [12]), ([12], [12]), ([13, 11, 0, 1, 2, 3, 4, 5, 6, 7, 8, 9, 10, 11, 12, 13], [13]), ([14, 15, 0, 1, 2, 3, 4, 5, 6, 7, 8, 9, 10, 11, 12, 13, 14, 15], [14])])
def undercroftlaw07_FileText.B10 : List Nat := [0, 0, 0, 6, 14, 30, 0, 0, 192, 448, 960, 2047, 4095, 8191, 8191, 16383, 65535]
theorem undercroftlaw07_FileText.tab10 : rtab .any (opsOf Tryd.f5 10) = undercroftlaw07_FileText.T10 := by kernel_rfl
theorem undercroftlaw07_FileText.bits10 : waitsOk undercroftlaw07_FileText.T10.2 undercroftlaw07_FileText.B10 = true := by kernel_rfl
def undercroftlaw07_FileText.T11 : Bool × List (List Nat × List Nat) := (true, [([], []), ([], []), ([], []), ([1, 2], [1, 2]), ([3], [3]), ([4], [4]), ([0, 5], [0, 5]), ([6], [6]), ([7], [7]), ([7], [7]), ([8, 6, 0, 1, 2, 3, 4, 5, 6, 7, 8], [8]), ([9, 10, 0, 1, 2, 3, 4, 5, 6, 7, 8, 9, 10], [9])])
def undercroftlaw07_FileText.B11 : List Nat := [0, 0, 0, 6, 14, 30, 63, 127, 255, 255, 511, 2047]
theorem undercroftlaw07_FileText.tab11 : rtab .any (opsOf Tryd.f5 11) = undercroftlaw07_FileText.T11 := by kernel_rfl
theorem undercroftlaw07_FileText.bits11 : waitsOk undercroftlaw07_FileText.T11.2 undercroftlaw07_FileText.B11 = true := by kernel_rfl
def undercroftlaw07_FileText.T13 : Bool × List (List Nat × List Nat) := (true, [([], []), ([], []), ([0, 1], [0, 1]), ([2], [2]), ([3], [3]), ([4], [4]), ([5], [5]), ([6], [6]), ([6], [6]), ([7, 8, 6], [6, 7, 8]), ([9, 6], [6, 9]), ([10, 6], [6, 10]), ([11, 6], [6, 11]), ([6, 12], [6, 12]), ([13, 6], [13]), ([14], [14]), ([14], [14]), ([15, 16, 14], [14, 15, 16]), ([17, 14], [14, 17]), ([18, 14], [14, 18]), ([19, 14], [14, 19]), ([20, 14, 14], [14, 20]), ([21], [21]), ([21], [21]), ([22, 23, 21], [21, 22, 23]), ([24, 21], [21, 24]), ([25, 21], [21, 25]), ([26, 21], [21, 26]), ([21], [21]), ([21], [21]), ([28, 29, 21], [21, 28, 29]), ([30, 21], [21, 30]), ([31, 21], [21, 31]), ([32, 21], [21, 32]), ([27, 33, 21], [21, 27, 33]), ([21, 34, 14], [14, 21, 34]), ([14, 35], [14, 35])])
def undercroftlaw07_FileText.B13 : List Nat := [0, 0, 3, 7, 15, 31, 63, 127, 127, 511, 1023, 2047, 4095, 8191, 16383, 32767, 32767, 131071, 262143, 524287, 1048575, 2097151, 4194303, 4194303, 16777215, 33554431, 67108863, 134217727, 4194303, 4194303, 809500671, 1883242495, 4030726143, 8325693439, 17179869183, 34359738367, 68719476735]
theorem undercroftlaw07_FileText.tab13 : rtab .any (opsOf Tryd.f5 13) = undercroftlaw07_FileText.T13 := by kernel_rfl
theorem undercroftlaw07_FileText.bits13 : waitsOk undercroftlaw07_FileText.T13.2 undercroftlaw07_FileText.B13 = true := by kernel_rfl
def undercroftlaw07_FileText.T25 : Bool × List (List Nat × List Nat) := (true, [([], []), ([], []), ([], []), ([1, 2], [1, 2]), ([3], [3]), ([4], [4]), ([], []), ([5, 6], [5, 6]), ([], []), ([], []), ([8, 9], [8, 9]), ([10], [10]), ([11], [11]), ([], []), ([12, 13], [12, 13]), ([14], [14]), ([0, 7, 0, 1, 2, 3, 4, 5, 6, 7, 8, 9, 10, 11, 12, 13, 14, 15], [0, 7]), ([16, 15, 0, 1, 2, 3, 4, 5, 6, 7, 8, 9, 10, 11, 12, 13, 14, 15], [15, 16])])
def undercroftlaw07_FileText.B25 : List Nat := [0, 0, 0, 6, 14, 30, 0, 126, 0, 0, 768, 1792, 3840, 0, 16128, 32512, 65535, 131071]
theorem undercroftlaw07_FileText.tab25 : rtab .any (opsOf Tryd.f5 25) = undercroftlaw07_FileText.T25 := by kernel_rfl
theorem undercroftlaw07_FileText.bits25 : waitsOk undercroftlaw07_FileText.T25.2 undercroftlaw07_FileText.B25 = true := by kernel_rfl
end Go.Proofs.YtomebhohkonhlaaDoor.PFtx
