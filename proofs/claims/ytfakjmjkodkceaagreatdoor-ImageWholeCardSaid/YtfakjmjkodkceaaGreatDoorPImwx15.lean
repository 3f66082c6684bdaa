-- Written by a program of this session (gen.py).
import Derived.Test.YtfakjmjkodkceaaGreatDoorPImwx0
import Derived.Test.YtfakjmjkodkceaaGreatDoorPImwx9
import Derived.Test.YtfakjmjkodkceaaGreatDoorPImwx12
import Derived.Test.YtfakjmjkodkceaaGreatDoorPImwx14
namespace Go.Proofs.YtfakjmjkodkceaaGreatDoor.PImw
open Go.RowKit Go.Proofs.YtfakjmjkodkceaaGreatDoorW.PrintWords Go.Proofs.YtfakjmjkodkceaaGreatDoorW.PrintLast Go.Proofs.YtfakjmjkodkceaaGreatDoorW.PrintMore
open Go.Proofs.YtfakjmjkodkceaaGreatDoor.Own
attribute [local go_sem high] unary_not_u32 unary_not_u64 unary_not_u8 string_leq_ string_gtr_ string_geq_
attribute [local go_sem] max2_int min2_int max_two min_two max_three min_three max_four min_four   -- for this text's walks alone
set_option linter.unusedVariables false
set_option linter.unusedSimpArgs false

/-! ### undercroftlaw12_ImageWhole: function 4 -/

def undercroftlaw12_ImageWhole.j0 : Nat → Int → List (List Int) → Bool → Option (Bool)
 | 0, _, _, _ => none
 | k + 1, x1, x5, x27 => if x27 = true then (some ((x5.length : Int) == 0)) else (if (wrap64 ((x5.length : Int) - 1)) = 0 then (none) else (if 0 ≤ (wrap64 (1 + (Int.tmod (wrap64 ((wrap64 ((Int.tmod x1 (wrap64 ((x5.length : Int) - 1))) + (x5.length : Int))) - 1)) (wrap64 ((x5.length : Int) - 1))))) then (if (wrap64 (1 + (Int.tmod (wrap64 ((wrap64 ((Int.tmod x1 (wrap64 ((x5.length : Int) - 1))) + (x5.length : Int))) - 1)) (wrap64 ((x5.length : Int) - 1))))) ≤ (x5.length : Int) then ((some (x5.take ((wrap64 (1 + (Int.tmod (wrap64 ((wrap64 ((Int.tmod x1 (wrap64 ((x5.length : Int) - 1))) + (x5.length : Int))) - 1)) (wrap64 ((x5.length : Int) - 1))))) : Int).toNat : List (List Int))).bind fun y395 => (if ([] : List (List Int)).length + y395.length < 5864062014805 then ((some (([] : List (List Int)) ++ y395 : List (List Int))).bind fun y400 => (if 0 ≤ (wrap64 ((wrap64 (1 + (Int.tmod (wrap64 ((wrap64 ((Int.tmod x1 (wrap64 ((x5.length : Int) - 1))) + (x5.length : Int))) - 1)) (wrap64 ((x5.length : Int) - 1))))) + 1)) then (if (wrap64 ((wrap64 (1 + (Int.tmod (wrap64 ((wrap64 ((Int.tmod x1 (wrap64 ((x5.length : Int) - 1))) + (x5.length : Int))) - 1)) (wrap64 ((x5.length : Int) - 1))))) + 1)) ≤ (x5.length : Int) then ((some (x5.drop ((wrap64 ((wrap64 (1 + (Int.tmod (wrap64 ((wrap64 ((Int.tmod x1 (wrap64 ((x5.length : Int) - 1))) + (x5.length : Int))) - 1)) (wrap64 ((x5.length : Int) - 1))))) + 1)) : Int).toNat : List (List Int))).bind fun y403 => (if y400.length + y403.length < 5864062014805 then ((image_Decode.f k (y400 ++ y403)).bind fun bt411 => ((undercroftplain_CopyLists.f k x5).bind fun t417 => (if (wrap64 (1 + (Int.tmod (wrap64 ((wrap64 ((Int.tmod x1 (wrap64 ((x5.length : Int) - 1))) + (x5.length : Int))) - 1)) (wrap64 ((x5.length : Int) - 1))))) < (x5.length : Int) then (if t417.length < 5864062014805 then ((image_Decode.f k (t417 ++ [rd_L5 x5 (wrap64 (1 + (Int.tmod (wrap64 ((wrap64 ((Int.tmod x1 (wrap64 ((x5.length : Int) - 1))) + (x5.length : Int))) - 1)) (wrap64 ((x5.length : Int) - 1)))))])).bind fun bt424 => ((undercroftlaw12_num.f bt411.2.2).bind fun t430 => (if t430 = 3 then ((undercroftlaw12_num.f bt424.2.2).bind fun t431 => (if t431 = 3 then (some ((wrap64 ((bt411.1.length : Int) + (bt424.1.length : Int))) == 0)) else (none))) else (none)))) else (none)) else (none)))) else (none))) else (none)) else (none))) else (none))) else (none)) else (none)))
def undercroftlaw12_ImageWhole.f (k : Nat) (l0_0 : List (S62)) (a0_1 : Int) (a1 : Int) : Option (Bool) := (undercroftlaw12_alive.f k).bind fun t385 => (if t385 = true then ((undercroftlaw10_Of.f k l0_0 a0_1).bind fun bt386 => ((image_Encode.f k bt386.1 bt386.2).bind fun bt390 => ((undercroftlaw12_num.f bt390.2).bind fun t394 => (if t394 = 0 then (undercroftlaw12_ImageWhole.j0 k a1 bt390.1 (decide ((bt390.1.length : Int) < 2))) else (undercroftlaw12_ImageWhole.j0 k a1 bt390.1 true))))) else (none))
theorem undercroftlaw12_ImageWhole.mono_l : ∀ k, (∀ y0 y1 y2, LeO (undercroftlaw12_ImageWhole.j0 k y0 y1 y2) (undercroftlaw12_ImageWhole.j0 (k + 1) y0 y1 y2))
 | 0 => fun _ _ _ r h => by simp [undercroftlaw12_ImageWhole.j0] at h
 | k + 1 => by
  have ih0 := undercroftlaw12_ImageWhole.mono_l k
  ·intro y0 y1 y2
   unfold undercroftlaw12_ImageWhole.j0
   repeat' first
   | (with_reducible exact ih0 _ _ _)
   | (with_reducible exact image_Decode.mono _ _)
   | (with_reducible exact image_Encode.mono _ _ _)
   | (with_reducible exact undercroftlaw10_Of.mono _ _ _)
   | (with_reducible exact undercroftlaw12_alive.mono _)
   | (with_reducible exact undercroftplain_CopyLists.mono _ _)
   | (with_reducible exact LeO.refl _)
   | (with_reducible exact LeO.none _)
   | (with_reducible refine LeO.ite ?_ ?_)
   | (with_reducible refine LeO.bind ?_ (fun _ => ?_))
   | exact ih0 _ _ _
   | exact image_Decode.mono _ _
   | exact image_Encode.mono _ _ _
   | exact undercroftlaw10_Of.mono _ _ _
   | exact undercroftlaw12_alive.mono _
   | exact undercroftplain_CopyLists.mono _ _
   | exact LeO.none _
   | refine LeO.ite ?_ ?_
   | refine LeO.bind ?_ (fun _ => ?_)
theorem undercroftlaw12_ImageWhole.mono : ∀ a0 a1 a2 k, LeO (undercroftlaw12_ImageWhole.f k a0 a1 a2) (undercroftlaw12_ImageWhole.f (k + 1) a0 a1 a2) := by
 intro a0 a1 a2 k
 have ih0 := undercroftlaw12_ImageWhole.mono_l k
 unfold undercroftlaw12_ImageWhole.f
 repeat' first
   | (with_reducible exact ih0 _ _ _)
   | (with_reducible exact image_Decode.mono _ _)
   | (with_reducible exact image_Encode.mono _ _ _)
   | (with_reducible exact undercroftlaw10_Of.mono _ _ _)
   | (with_reducible exact undercroftlaw12_alive.mono _)
   | (with_reducible exact undercroftplain_CopyLists.mono _ _)
   | (with_reducible exact LeO.refl _)
   | (with_reducible exact LeO.none _)
   | (with_reducible refine LeO.ite ?_ ?_)
   | (with_reducible refine LeO.bind ?_ (fun _ => ?_))
   | exact ih0 _ _ _
   | exact image_Decode.mono _ _
   | exact image_Encode.mono _ _ _
   | exact undercroftlaw10_Of.mono _ _ _
   | exact undercroftlaw12_alive.mono _
   | exact undercroftplain_CopyLists.mono _ _
   | exact LeO.none _
   | refine LeO.ite ?_ ?_
   | refine LeO.bind ?_ (fun _ => ?_)
/-! #### what the region of the two decodings keeps -/
def CLd (W : World) (A : Option Addr) (l : List (List Int)) : Prop := Kd.C (Kd.slice 5 (Kd.int .u8)) W A l.length l
theorem CLd.imp_bel {WW W : World} {A : Option Addr} {l : List (List Int)} (h : CLd WW A l) (hb : Below WW.heap.size WW W) : Kd.C (Kd.slice 5 (Kd.int .u8)) W A l.length l := Kd.C_below h hb
def G1 (w WW : World) (t : List (List Int)) (W : World) (v : Value) : Prop := Kd.N (Kd.slice 5 (Kd.int .u8)) 41 W w.heap.size (fun k => WW.heap.size ≤ k) v t
def G6 (WW : World) (A : Option Addr) (c : Nat) (x : List Int) (W : World) (m : Nat) : Prop := W.heap[m]? = some (.cells #[.slice A x.length c] 41 (0, 0)) ∧ WW.heap.size ≤ m
def G7 (w : World) (t : List (List Int)) (W : World) (v : Value) : Prop := Kd.N (Kd.slice 5 (Kd.int .u8)) 41 W w.heap.size (fun _ => True) v t
def G12 (WW W : World) (b : Nat) : Prop := W.heap[b]? = some (.cells #[.slice none 0 0, .int .i64 0] 32 (0, 0)) ∧ WW.heap.size ≤ b
def Z8 (z : Value) (t : List S55) (n e : Int) : Prop := ∃ A c, z = .tuple #[.agg #[.slice A t.length c, .int .i64 n], .int .i64 e]
theorem G1.below {w WW W W2 : World} {t : List (List Int)} {v : Value} (h : G1 w WW t W v) (hb : Below W.heap.size W W2) : G1 w WW t W2 v := Kd.N_below h hb
theorem G7.below {w W W2 : World} {t : List (List Int)} {v : Value} (h : G7 w t W v) (hb : Below W.heap.size W W2) : G7 w t W2 v := Kd.N_below h hb
theorem G6.below {WW W W2 : World} {A : Option Addr} {c m : Nat} {x : List Int} (h : G6 WW A c x W m) (hb : Below W.heap.size W W2) : G6 WW A c x W2 m := ⟨(hb.block m (blk_lt h.1)).trans h.1, h.2⟩
theorem G12.below {WW W W2 : World} {b : Nat} (h : G12 WW W b) (hb : Below W.heap.size W W2) : G12 WW W2 b := ⟨(hb.block b (blk_lt h.1)).trans h.1, h.2⟩
theorem G1.new {w WW W W2 : World} {t : List (List Int)} {v : Value} (h1 : w.heap.size ≤ W.heap.size) (h2 : WW.heap.size ≤ W.heap.size) (h : Kd.S (Kd.slice 5 (Kd.int .u8)) 41 W2 W.heap.size (fun _ => True) v t) : G1 w WW t W2 v :=
 Kd.N_lower (Kd.N_mono (Kd.S_N (Kd.S_bound h)) (fun k hk => Nat.le_trans h2 hk.2.1)) h1
theorem C_one {W : World} {b : Nat} {v0 : Value} {t : TypeId} {fr : Nat × Nat} {l0 : List Int} (hb : W.heap[b]? = some (.cells #[v0] t fr))
  (h0 : ∃ A c, v0 = .slice A l0.length c ∧ l0.length ≤ c ∧ (Kd.int .u8).C W A l0.length l0) : Kd.C (Kd.slice 5 (Kd.int .u8)) W (some ⟨b, 0, none⟩) 1 [l0] := by
 obtain ⟨A, c, rfl, hc, hC⟩ := h0
 refine ⟨rfl, by decide, fun _ => ⟨_, rfl, fun j p hj => ?_⟩⟩
 match j, hj with
 | 0, hj =>
  cases hj
  refine ⟨[.slice A l0.length c], rfl, ⟨A, c, rfl, hc, hC⟩, fun i u hu => ?_⟩
  have hi : i = 0 := by
   have := (List.getElem?_eq_some_iff.1 hu).1
   simpa using this
  subst hi
  simp at hu
  subst hu
  show W.cell? ((⟨b, 0, none⟩ : Addr).add 0) = _
  rw [show (⟨b, 0, none⟩ : Addr).add 0 = ⟨b, 0, none⟩ from rfl, cell_of_row _ _ _ _ _ _ hb]
  rfl
theorem F_one {WW Wj : World} {m c : Nat} {A : Option Addr} {x : List Int} (hC : (Kd.int .u8).C WW A x.length x) (hc : x.length ≤ c) (hb : Below WW.heap.size WW Wj) (hm : Wj.heap[m]? = some (.cells #[.slice A x.length c] 41 (0, 0))) :
  Kd.F (Kd.slice 5 (Kd.int .u8)) Wj (fun k => k = m ∨ k < WW.heap.size) (some ⟨m, 0, none⟩) 1 [x] := fun W' hW =>
 C_one ((hW m (.inl rfl) (blk_lt hm)).trans hm) ⟨A, c, rfl, hc, (Kd.heap_int .u8).C (fun k hlt => (hW k (.inr hlt) (Nat.lt_of_lt_of_le hlt hb.size)).trans (hb.block k hlt)) hC⟩
def iw_T11 : Bool × List (List Nat × List Nat) := (true, [([], []), ([0], [0]), ([], []), ([], []), ([2, 3], [2, 3]), ([4], [4]), ([5], [5]), ([1, 6, 1], [1, 6]), ([7, 7], [7]), ([8], [8]), ([9], [9]), ([9], [9]), ([], []), ([12, 10, 8, 0, 1, 2, 3, 4, 5, 6, 7, 8, 9, 10, 12], [10, 12]), ([11, 13, 0, 1, 2, 3, 4, 5, 6, 7, 8, 9, 10, 11, 12, 13], [11])])
def iw_B11 : List Nat := [0, 1, 0, 0, 12, 28, 60, 127, 255, 511, 1023, 1023, 0, 6143, 16383]
theorem iw_tab11 : rtab .any (opsOf Tryz.f4 11) = iw_T11 := by kernel_rfl
theorem iw_bits11 : waitsOk iw_T11.2 iw_B11 = true := by kernel_rfl
set_option maxHeartbeats 8000000 in
set_option maxRecDepth 100000 in
theorem undercroftlaw12_ImageWhole.calls (k : Nat) (A0_0 : Option Addr) (c0_0 : Nat) (l0_0 : List (S62)) (a0_1 : Int) (a1 : Int) (r : Bool) (w : World) (hr0_0 : Kd.C k62 w A0_0 l0_0.length l0_0) (hc0_0 : l0_0.length ≤ c0_0) (h : undercroftlaw12_ImageWhole.f k l0_0 a0_1 a1 = some r) :
  Calls Tryz.prog 4 #[.agg #[.slice A0_0 l0_0.length c0_0, .int .i64 a0_1], .int .i64 a1] w fun e w' => e = .returned (.bool r) ∧ Below w.heap.size w w' := by
 have hu24 := Tryz.underlying24
 have hu32 := Tryz.underlying32
 have HR0_0 := Aside0.mk hr0_0
 have HC0_0 := Aside0.mk hc0_0
 clear hr0_0 hc0_0
 have HB := Aside0.mk (Below.refl w.heap.size w)
 have H : ((undercroftlaw12_alive.f k).bind fun t385 => (if t385 = true then ((undercroftlaw10_Of.f k l0_0 a0_1).bind fun bt386 => ((image_Encode.f k bt386.1 bt386.2).bind fun bt390 => ((undercroftlaw12_num.f bt390.2).bind fun t394 => (if t394 = 0 then (undercroftlaw12_ImageWhole.j0 k a1 bt390.1 (decide ((bt390.1.length : Int) < 2))) else (undercroftlaw12_ImageWhole.j0 k a1 bt390.1 true))))) else (none))) = some r := h
 clear h
 replace H := Option.bind_eq_some_iff.mp H
 obtain ⟨t385, A30, H⟩ := H
 replace H : (if t385 = true then ((undercroftlaw10_Of.f k l0_0 a0_1).bind fun bt386 => ((image_Encode.f k bt386.1 bt386.2).bind fun bt390 => ((undercroftlaw12_num.f bt390.2).bind fun t394 => (if t394 = 0 then (undercroftlaw12_ImageWhole.j0 k a1 bt390.1 (decide ((bt390.1.length : Int) < 2))) else (undercroftlaw12_ImageWhole.j0 k a1 bt390.1 true))))) else (none)) = some r := H
 have A3 := Aside0.mk A30
 clear A30
 by_cases c4 : t385 = true
 ·subst c4
  have H1 : ((undercroftlaw10_Of.f k l0_0 a0_1).bind fun bt386 => ((image_Encode.f k bt386.1 bt386.2).bind fun bt390 => ((undercroftlaw12_num.f bt390.2).bind fun t394 => (if t394 = 0 then (undercroftlaw12_ImageWhole.j0 k a1 bt390.1 (decide ((bt390.1.length : Int) < 2))) else (undercroftlaw12_ImageWhole.j0 k a1 bt390.1 true))))) = some r := by rw [if_pos rfl] at H; exact H
  clear H
  have H := H1
  clear H1
  replace H := Option.bind_eq_some_iff.mp H
  obtain ⟨⟨t386, t389⟩, A50, H⟩ := H
  replace H : ((image_Encode.f k t386 t389).bind fun bt390 => ((undercroftlaw12_num.f bt390.2).bind fun t394 => (if t394 = 0 then (undercroftlaw12_ImageWhole.j0 k a1 bt390.1 (decide ((bt390.1.length : Int) < 2))) else (undercroftlaw12_ImageWhole.j0 k a1 bt390.1 true)))) = some r := H
  have A5 := Aside0.mk A50
  clear A50
  replace H := Option.bind_eq_some_iff.mp H
  obtain ⟨⟨t390, t393⟩, A60, H⟩ := H
  replace H : ((undercroftlaw12_num.f t393).bind fun t394 => (if t394 = 0 then (undercroftlaw12_ImageWhole.j0 k a1 t390 (decide ((t390.length : Int) < 2))) else (undercroftlaw12_ImageWhole.j0 k a1 t390 true))) = some r := H
  have A6 := Aside0.mk A60
  clear A60
  have HC7 := Aside0.mk H
  clear H
  go_enter Tryz.func4, Tryz.ntmps4
  go_upto_region 4 with (first | ((with_reducible refine gate_dst (N := 2) rfl ?_); (try (refine gate_guard (by rfl) ?_; dsimp only)); refine box_event ?hg (N := 2) ?hd (cs := #[.slice A0_0 l0_0.length c0_0, .int .i64 a0_1]) (t := 24) ?hr ?_; (case hd => rfl); (case hg => rfl); (case hr => first | (go_simp; done) | (go_simp; rfl)); intro gb384 hg w8 hbox hb; have n0_ := Aside0.mk (below_step (by repeat (first | (with_reducible first | exact HB.out | apply below_alloc | apply pw_below_drewN | apply below_drew1) | exact HB.out)) hb); have n1_ := Aside0.mk (hbox); have n2_ := Aside0.mk ((by rw [hg]; exact (below_size (by repeat (first | (with_reducible first | exact HB.out | apply below_alloc | apply pw_below_drewN | apply below_drew1) | exact HB.out))) : w.heap.size ≤ gb384)); have n3_ := Aside0.mk ((by rw [hg]; exact (below_size (by repeat (first | (with_reducible first | exact HB.out | apply below_alloc | apply pw_below_drewN | apply below_drew1) | exact HB.out))) : w.heap.size ≤ gb384)); clear HB; have HB := n0_; have BK384 := n1_; have GW384 := n2_; have GE384 := n3_; clear n0_ n1_ n2_ n3_; clear hb hbox hg) | ((with_reducible refine gate_callee (f := 6) rfl ?_); refine goesL_ (some 12) rfl rfl Tryz.func6 (by kernel_rfl) rfl #[] rfl (by (try simp only [List.map_toArray, List.map_cons, List.map_nil]); first | done | rfl | (simp only [List.length_drop, List.length_take]; rfl)) ?_; (with_reducible refine (undercroftlaw12_alive.calls k  true _ A3.out).mono ?_); rintro e w9 ⟨rfl, hb⟩; refine ⟨_, rfl, ?_⟩; have n0_ := Aside0.mk (blk_below (g := gb384) (o := .cells #[.slice A0_0 l0_0.length c0_0, .int .i64 a0_1] 24 (0, 0)) (by (with_reducible repeat (first | refine blk_drewN ?_ _ | refine blk_drew ?_ | refine blk_alloc ?_ _)); exact BK384.out) hb); have n1_ := Aside0.mk (below_step (by repeat (first | (with_reducible first | exact HB.out | apply below_alloc | apply pw_below_drewN | apply below_drew1 | refine below_set ?_ GE384.out) | exact HB.out)) hb); clear BK384; clear HB; have BK384 := n0_; have HB := n1_; clear n0_ n1_; (try clear hb); (try clear hb2); (try clear hk); (try clear hi); have hcz10_0 : w9.cell? ⟨gb384, 0, none⟩ = some (.slice A0_0 l0_0.length c0_0) := (blk_cell BK384.out 0).trans rfl; have hcz10_1 : w9.cell? ⟨gb384, 1, none⟩ = some (.int .i64 a0_1) := (blk_cell BK384.out 1).trans rfl; have hfz10_0 := blk_frozen BK384.out 0; have hfz10_1 := blk_frozen BK384.out 1) | ((with_reducible refine gate_callee (f := 8) rfl ?_); refine goesL_ (some 16) rfl rfl Tryz.func8 (by kernel_rfl) rfl #[.agg #[.slice A0_0 l0_0.length c0_0, .int .i64 a0_1]] rfl (by (try simp only [List.map_toArray, List.map_cons, List.map_nil]); first | done | rfl | (simp only [List.length_drop, List.length_take]; rfl)) ?_; (with_reducible refine (undercroftlaw10_Of.calls k _ _ l0_0 a0_1 t386 t389 _ ?side1 ?side2 A5.out).mono ?_); (case side1 => repeat (first | exact (Kd.C_below HR0_0.out HB.out) | (with_reducible refine Kd.C_alloc ?_ _) | (with_reducible refine Kd.C_drewN ?_ _) | (with_reducible refine Kd.C_drew ?_))); (case side2 => exact HC0_0.out); rintro e w11 ⟨v387, rfl, ho0, hb⟩; refine ⟨_, rfl, ?_⟩; have n0_ := Aside0.mk (Kd.N_lower (Kd.N_mono (ok' := fun k_ => k_ ≠ gb384) (Kd.R_N (Kd.R_bound ho0)) (fun k_ hk_ => (Kd.freshB (g := gb384) (o := .cells #[.slice A0_0 l0_0.length c0_0, .int .i64 a0_1] 24 (0, 0)) (by (with_reducible repeat (first | refine blk_drewN ?_ _ | refine blk_drew ?_ | refine blk_alloc ?_ _)); exact BK384.out) k_ hk_.2.1))) (below_size (by repeat (first | (with_reducible first | exact HB.out | apply below_alloc | apply pw_below_drewN | apply below_drew1 | refine below_set ?_ GE384.out) | exact HB.out)))); have n1_ := Aside0.mk (blk_below (g := gb384) (o := .cells #[.slice A0_0 l0_0.length c0_0, .int .i64 a0_1] 24 (0, 0)) (by (with_reducible repeat (first | refine blk_drewN ?_ _ | refine blk_drew ?_ | refine blk_alloc ?_ _)); exact BK384.out) hb); have n2_ := Aside0.mk (below_step (by repeat (first | (with_reducible first | exact HB.out | apply below_alloc | apply pw_below_drewN | apply below_drew1 | refine below_set ?_ GE384.out) | exact HB.out)) hb); clear BK384; clear HB; have HO388 := n0_; have BK384 := n1_; have HB := n2_; clear n0_ n1_ n2_; (try clear hb); (try clear hb2); (try clear hk); (try clear hi); (try clear ho0); obtain ⟨Ao12, co12, eo12⟩ := Kd.N_slice HO388.out; subst eo12) | ((with_reducible refine gate_callee (f := 7) rfl ?_); refine goesL_ (some 17) rfl rfl Tryz.func7 (by kernel_rfl) rfl #[.agg #[.slice Ao12 t386.length co12, .int .i64 t389]] rfl (by (try simp only [List.map_toArray, List.map_cons, List.map_nil]); first | done | rfl | (simp only [List.length_drop, List.length_take]; rfl)) ?_; (with_reducible refine (image_Encode.calls k _ _ t386 t389 t390 t393 _ ?side1 ?side2 A6.out).mono ?_); (case side1 => repeat (first | exact (Kd.N_reads' HO388.out).2.2 | (with_reducible refine Kd.C_alloc ?_ _) | (with_reducible refine Kd.C_drewN ?_ _) | (with_reducible refine Kd.C_drew ?_))); (case side2 => exact (Kd.N_reads' HO388.out).2.1); rintro e w13 ⟨v391, rfl, ho0, hb⟩; refine ⟨_, rfl, ?_⟩; have n0_ := Aside0.mk (Kd.N_elder' (by (with_reducible repeat (first | apply Kd.N_alloc | apply Kd.N_drewN | apply Kd.N_drew)); exact HO388.out) (Kd.N_base ho0) hb); have n1_ := Aside0.mk (Kd.N_lower (Kd.N_mono (ok' := fun k_ => some k_ ≠ (.slice Ao12 t386.length co12 : Value).ownBlock ∧ k_ ≠ gb384) ho0 (fun k_ hk_ => ⟨(Kd.fresh' (Kd.N_lt (by (with_reducible repeat (first | apply Kd.N_alloc | apply Kd.N_drewN | apply Kd.N_drew)); exact HO388.out)) k_ hk_), (Kd.freshB (g := gb384) (o := .cells #[.slice A0_0 l0_0.length c0_0, .int .i64 a0_1] 24 (0, 0)) (by (with_reducible repeat (first | refine blk_drewN ?_ _ | refine blk_drew ?_ | refine blk_alloc ?_ _)); exact BK384.out) k_ hk_)⟩)) (below_size (by repeat (first | (with_reducible first | exact HB.out | apply below_alloc | apply pw_below_drewN | apply below_drew1 | refine below_set ?_ GE384.out) | exact HB.out)))); have n2_ := Aside0.mk (blk_below (g := gb384) (o := .cells #[.slice A0_0 l0_0.length c0_0, .int .i64 a0_1] 24 (0, 0)) (by (with_reducible repeat (first | refine blk_drewN ?_ _ | refine blk_drew ?_ | refine blk_alloc ?_ _)); exact BK384.out) hb); have n3_ := Aside0.mk (below_step (by repeat (first | (with_reducible first | exact HB.out | apply below_alloc | apply pw_below_drewN | apply below_drew1 | refine below_set ?_ GE384.out) | exact HB.out)) hb); clear HO388; clear BK384; clear HB; have HO388 := n0_; have HO392 := n1_; have BK384 := n2_; have HB := n3_; clear n0_ n1_ n2_ n3_; (try clear hb); (try clear hb2); (try clear hk); (try clear hi); (try clear ho0)))
  (try simp only [Act.put, List.setIfInBounds_toArray, List.set_cons_zero, List.set_cons_succ])
  go_cut [27] (fun v27 wc => ∃ (kq : Nat) (x27_6 : Bool), v27 = .bool x27_6 ∧ Aside0 (undercroftlaw12_ImageWhole.j0 kq a1 t390 x27_6 = some r) ∧ Aside0 (kq ≤ k) ∧ Aside0 (Kd.N (Kd.slice 5 (Kd.int .u8)) 41 wc w.heap.size (fun k_ => k_ ≠ gb384) v391 t390) ∧ Aside0 (wc.heap[gb384]? = some (.cells #[(.slice A0_0 l0_0.length c0_0), .int .i64 a0_1] 24 (0, 0))) ∧ Aside0 (Below w.heap.size w wc))
  case first =>
   have H := HC7.out
   clear HC7
   replace H := Option.bind_eq_some_iff.mp H
   obtain ⟨t394, A140, H⟩ := H
   replace H : (if t394 = 0 then (undercroftlaw12_ImageWhole.j0 k a1 t390 (decide ((t390.length : Int) < 2))) else (undercroftlaw12_ImageWhole.j0 k a1 t390 true)) = some r := H
   have A14 := Aside0.mk A140
   clear A140
   by_cases c15 : t394 = 0
   ·rw [if_pos c15] at H
    have c15b0 : (t394 == 0) = true := beq_iff_eq.mpr c15
    have c15b1 : (t394 != 0) = false := bne_eq_false_iff_eq.mpr c15
    clear c15
    (first | rw [c15b0] | (simp only [i64_w, i32_w]; rw [c15b0]) | skip)
    have H' := Aside0.mk H
    clear H
    go_wp2_with (first | ((with_reducible refine gate_callee (f := 9) rfl ?_); refine goesL_ (some 21) rfl rfl Tryz.func9 (by kernel_rfl) rfl #[.int .i64 t393] rfl (by (try simp only [List.map_toArray, List.map_cons, List.map_nil]); first | done | rfl | (simp only [List.length_drop, List.length_take]; rfl)) ?_; (with_reducible refine (undercroftlaw12_num.calls t393 t394 _ A14.out).mono ?_); rintro e w' ⟨rfl, ⟨nd, rfl⟩⟩; refine ⟨_, rfl, ?_⟩; obtain ⟨Ao16, co16, eo16⟩ := Kd.N_slice HO392.out; subst eo16))
    go_meet
    case rel => exact ⟨_, (decide ((t390.length : Int) < 2)), (by first | rfl | (simp; done) | (simp [*]; done)), H', ⟨by first | omega | exact Nat.le_refl _⟩, ⟨by (with_reducible repeat (first | apply Kd.N_alloc | apply Kd.N_drewN | apply Kd.N_drew)); exact Kd.N_mono HO392.out (fun _ hk => hk.2)⟩, ⟨by (with_reducible repeat (first | refine blk_drewN ?_ _ | refine blk_drew ?_ | refine blk_alloc ?_ _)); exact BK384.out⟩, ⟨by repeat (first | (with_reducible first | exact HB.out | apply below_alloc | apply pw_below_drewN | apply below_drew1 | refine below_set ?_ GE384.out) | exact HB.out)⟩⟩
   ·rw [if_neg c15] at H
    have c15b0 : (t394 == 0) = false := beq_eq_false_iff_ne.mpr c15
    have c15b1 : (t394 != 0) = true := bne_iff_ne.mpr c15
    (first | rw [c15b0] | (simp only [i64_w, i32_w]; rw [c15b0]) | skip)
    have H' := Aside0.mk H
    clear H
    go_wp2_with (first | ((with_reducible refine gate_callee (f := 9) rfl ?_); refine goesL_ (some 21) rfl rfl Tryz.func9 (by kernel_rfl) rfl #[.int .i64 t393] rfl (by (try simp only [List.map_toArray, List.map_cons, List.map_nil]); first | done | rfl | (simp only [List.length_drop, List.length_take]; rfl)) ?_; (with_reducible refine (undercroftlaw12_num.calls t393 t394 _ A14.out).mono ?_); rintro e w' ⟨rfl, ⟨nd, rfl⟩⟩; refine ⟨_, rfl, ?_⟩))
    go_meet
    case rel => exact ⟨_, (true), (by first | rfl | (simp; done) | (simp [*]; done)), H', ⟨by first | omega | exact Nat.le_refl _⟩, ⟨by (with_reducible repeat (first | apply Kd.N_alloc | apply Kd.N_drewN | apply Kd.N_drew)); exact Kd.N_mono HO392.out (fun _ hk => hk.2)⟩, ⟨by (with_reducible repeat (first | refine blk_drewN ?_ _ | refine blk_drew ?_ | refine blk_alloc ?_ _)); exact BK384.out⟩, ⟨by repeat (first | (with_reducible first | exact HB.out | apply below_alloc | apply pw_below_drewN | apply below_drew1 | refine below_set ?_ GE384.out) | exact HB.out)⟩⟩
  case rest =>
   clear HC7
   try clear c1
   try clear p2
   try clear c4
   try clear c6
   try clear c7
   try clear c8
   try clear c9
   try clear c15
   try clear c15b0
   try clear c15b1
   try clear hcz10_0
   try clear hcz10_1
   try clear hfz10_0
   try clear hfz10_1
   obtain ⟨kq, x27_6, rfl, HA, HJ6, HO_5, BK384, HB⟩ := hcut
   cases kq with
   | zero => exact absurd HA.out (by simp [undercroftlaw12_ImageWhole.j0])
   | succ kj6 =>
    have H := HA.out
    clear HA
    simp only [undercroftlaw12_ImageWhole.j0] at H
    by_cases c17 : x27_6 = true
    ·subst c17
     have H1 : (some ((t390.length : Int) == 0)) = some r := by rw [if_pos rfl] at H; exact H
     clear H
     have H := H1
     clear H1
     obtain rfl := Option.some.inj H
     obtain ⟨Ao18, co18, eo18⟩ := Kd.N_slice HO_5.out
     subst eo18
     go_wp2
     go_ret
     exact ⟨by first | rfl | (simp [errW_none, errW_some] <;> rfl) | (simp [*, errW_none, errW_some] <;> rfl) | (exfalso; simp only [beq_iff_eq, decide_eq_true_eq] at *; omega), by repeat (first | (with_reducible first | exact HB.out | apply below_alloc | apply pw_below_drewN | apply below_drew1 | refine below_set ?_ GE384.out) | exact HB.out)⟩
    ·replace c17 := Bool.eq_false_iff.mpr c17
     subst c17
     have H1 : (if (wrap64 ((t390.length : Int) - 1)) = 0 then (none) else (if 0 ≤ (wrap64 (1 + (Int.tmod (wrap64 ((wrap64 ((Int.tmod a1 (wrap64 ((t390.length : Int) - 1))) + (t390.length : Int))) - 1)) (wrap64 ((t390.length : Int) - 1))))) then (if (wrap64 (1 + (Int.tmod (wrap64 ((wrap64 ((Int.tmod a1 (wrap64 ((t390.length : Int) - 1))) + (t390.length : Int))) - 1)) (wrap64 ((t390.length : Int) - 1))))) ≤ (t390.length : Int) then ((some (t390.take ((wrap64 (1 + (Int.tmod (wrap64 ((wrap64 ((Int.tmod a1 (wrap64 ((t390.length : Int) - 1))) + (t390.length : Int))) - 1)) (wrap64 ((t390.length : Int) - 1))))) : Int).toNat : List (List Int))).bind fun y395 => (if ([] : List (List Int)).length + y395.length < 5864062014805 then ((some (([] : List (List Int)) ++ y395 : List (List Int))).bind fun y400 => (if 0 ≤ (wrap64 ((wrap64 (1 + (Int.tmod (wrap64 ((wrap64 ((Int.tmod a1 (wrap64 ((t390.length : Int) - 1))) + (t390.length : Int))) - 1)) (wrap64 ((t390.length : Int) - 1))))) + 1)) then (if (wrap64 ((wrap64 (1 + (Int.tmod (wrap64 ((wrap64 ((Int.tmod a1 (wrap64 ((t390.length : Int) - 1))) + (t390.length : Int))) - 1)) (wrap64 ((t390.length : Int) - 1))))) + 1)) ≤ (t390.length : Int) then ((some (t390.drop ((wrap64 ((wrap64 (1 + (Int.tmod (wrap64 ((wrap64 ((Int.tmod a1 (wrap64 ((t390.length : Int) - 1))) + (t390.length : Int))) - 1)) (wrap64 ((t390.length : Int) - 1))))) + 1)) : Int).toNat : List (List Int))).bind fun y403 => (if y400.length + y403.length < 5864062014805 then ((image_Decode.f kj6 (y400 ++ y403)).bind fun bt411 => ((undercroftplain_CopyLists.f kj6 t390).bind fun t417 => (if (wrap64 (1 + (Int.tmod (wrap64 ((wrap64 ((Int.tmod a1 (wrap64 ((t390.length : Int) - 1))) + (t390.length : Int))) - 1)) (wrap64 ((t390.length : Int) - 1))))) < (t390.length : Int) then (if t417.length < 5864062014805 then ((image_Decode.f kj6 (t417 ++ [rd_L5 t390 (wrap64 (1 + (Int.tmod (wrap64 ((wrap64 ((Int.tmod a1 (wrap64 ((t390.length : Int) - 1))) + (t390.length : Int))) - 1)) (wrap64 ((t390.length : Int) - 1)))))])).bind fun bt424 => ((undercroftlaw12_num.f bt411.2.2).bind fun t430 => (if t430 = 3 then ((undercroftlaw12_num.f bt424.2.2).bind fun t431 => (if t431 = 3 then (some ((wrap64 ((bt411.1.length : Int) + (bt424.1.length : Int))) == 0)) else (none))) else (none)))) else (none)) else (none)))) else (none))) else (none)) else (none))) else (none))) else (none)) else (none))) = some r := by rw [if_neg (show ¬ (false = true) by decide)] at H; exact H
     clear H
     have H := H1
     clear H1
     by_cases c19 : (wrap64 ((t390.length : Int) - 1)) = 0
     ·rw [if_pos c19] at H
      exact absurd H (by simp)
     ·rw [if_neg c19] at H
      have c19b0 : ((wrap64 ((t390.length : Int) - 1)) == 0) = false := beq_eq_false_iff_ne.mpr c19
      have c19b1 : ((wrap64 ((t390.length : Int) - 1)) != 0) = true := bne_iff_ne.mpr c19
      obtain ⟨ji20, hji20⟩ : ∃ j_ : Int, (wrap64 (1 + (Int.tmod (wrap64 ((wrap64 ((Int.tmod a1 (wrap64 ((t390.length : Int) - 1))) + (t390.length : Int))) - 1)) (wrap64 ((t390.length : Int) - 1))))) = j_ := ⟨_, rfl⟩
      replace H : (if 0 ≤ (ji20) then (if (ji20) ≤ (t390.length : Int) then ((some (t390.take ((ji20) : Int).toNat : List (List Int))).bind fun y395 => (if ([] : List (List Int)).length + y395.length < 5864062014805 then ((some (([] : List (List Int)) ++ y395 : List (List Int))).bind fun y400 => (if 0 ≤ (wrap64 ((ji20) + 1)) then (if (wrap64 ((ji20) + 1)) ≤ (t390.length : Int) then ((some (t390.drop ((wrap64 ((ji20) + 1)) : Int).toNat : List (List Int))).bind fun y403 => (if y400.length + y403.length < 5864062014805 then ((image_Decode.f kj6 (y400 ++ y403)).bind fun bt411 => ((undercroftplain_CopyLists.f kj6 t390).bind fun t417 => (if (ji20) < (t390.length : Int) then (if t417.length < 5864062014805 then ((image_Decode.f kj6 (t417 ++ [rd_L5 t390 (ji20)])).bind fun bt424 => ((undercroftlaw12_num.f bt411.2.2).bind fun t430 => (if t430 = 3 then ((undercroftlaw12_num.f bt424.2.2).bind fun t431 => (if t431 = 3 then (some ((wrap64 ((bt411.1.length : Int) + (bt424.1.length : Int))) == 0)) else (none))) else (none)))) else (none)) else (none)))) else (none))) else (none)) else (none))) else (none))) else (none)) else (none)) = some r := by first | (rw [hji20] at H; exact H) | (simp only [hji20] at H ⊢; exact H)
      have hji20w : (IntKind.i64.wrap (1 + (Int.tmod (wrap64 ((wrap64 ((Int.tmod a1 (wrap64 ((t390.length : Int) - 1))) + (t390.length : Int))) - 1)) (wrap64 ((t390.length : Int) - 1))))) = ji20 := (i64_w _).trans hji20
      by_cases c21 : 0 ≤ (ji20)
      ·rw [if_pos c21] at H
       have c21b0 := eq_true c21
       have c21b1 : decide (0 ≤ (ji20)) = true := decide_eq_true c21
       clear c21
       by_cases c22 : (ji20) ≤ (t390.length : Int)
       ·rw [if_pos c22] at H
        have c22b0 := eq_true c22
        have c22b1 : decide ((ji20) ≤ (t390.length : Int)) = true := decide_eq_true c22
        clear c22
        obtain ⟨y395, hy395⟩ : ∃ y_ : List (List Int), y_ = (t390.take ((ji20) : Int).toNat) := ⟨_, rfl⟩
        replace H : (if ([] : List (List Int)).length + y395.length < 5864062014805 then ((some (([] : List (List Int)) ++ y395 : List (List Int))).bind fun y400 => (if 0 ≤ (wrap64 ((ji20) + 1)) then (if (wrap64 ((ji20) + 1)) ≤ (t390.length : Int) then ((some (t390.drop ((wrap64 ((ji20) + 1)) : Int).toNat : List (List Int))).bind fun y403 => (if y400.length + y403.length < 5864062014805 then ((image_Decode.f kj6 (y400 ++ y403)).bind fun bt411 => ((undercroftplain_CopyLists.f kj6 t390).bind fun t417 => (if (ji20) < (t390.length : Int) then (if t417.length < 5864062014805 then ((image_Decode.f kj6 (t417 ++ [rd_L5 t390 (ji20)])).bind fun bt424 => ((undercroftlaw12_num.f bt411.2.2).bind fun t430 => (if t430 = 3 then ((undercroftlaw12_num.f bt424.2.2).bind fun t431 => (if t431 = 3 then (some ((wrap64 ((bt411.1.length : Int) + (bt424.1.length : Int))) == 0)) else (none))) else (none)))) else (none)) else (none)))) else (none))) else (none)) else (none))) else (none)) = some r := by first | (rw [hy395]; with_reducible exact H) | (have H2_ := (Option.bind_some _ _).symm.trans H; rw [hy395]; with_reducible exact H2_) | (have H2_ := (Option.bind_some _ _).symm.trans H; with_reducible exact H2_) | with_reducible exact H | (rw [hy395]; exact H) | exact H
        have Ny395 := Aside0.mk hy395
        clear hy395
        by_cases c23 : ([] : List (List Int)).length + y395.length < 5864062014805
        ·rw [if_pos c23] at H
         have LMc23 := Aside0.mk c23
         clear c23
         obtain ⟨y400, hy400⟩ : ∃ y_ : List (List Int), y_ = (([] : List (List Int)) ++ y395) := ⟨_, rfl⟩
         replace H : (if 0 ≤ (wrap64 ((ji20) + 1)) then (if (wrap64 ((ji20) + 1)) ≤ (t390.length : Int) then ((some (t390.drop ((wrap64 ((ji20) + 1)) : Int).toNat : List (List Int))).bind fun y403 => (if y400.length + y403.length < 5864062014805 then ((image_Decode.f kj6 (y400 ++ y403)).bind fun bt411 => ((undercroftplain_CopyLists.f kj6 t390).bind fun t417 => (if (ji20) < (t390.length : Int) then (if t417.length < 5864062014805 then ((image_Decode.f kj6 (t417 ++ [rd_L5 t390 (ji20)])).bind fun bt424 => ((undercroftlaw12_num.f bt411.2.2).bind fun t430 => (if t430 = 3 then ((undercroftlaw12_num.f bt424.2.2).bind fun t431 => (if t431 = 3 then (some ((wrap64 ((bt411.1.length : Int) + (bt424.1.length : Int))) == 0)) else (none))) else (none)))) else (none)) else (none)))) else (none))) else (none)) else (none)) = some r := by first | (rw [hy400]; with_reducible exact H) | (have H2_ := (Option.bind_some _ _).symm.trans H; rw [hy400]; with_reducible exact H2_) | (have H2_ := (Option.bind_some _ _).symm.trans H; with_reducible exact H2_) | with_reducible exact H | (rw [hy400]; exact H) | exact H
         have Ny400 := Aside0.mk hy400
         clear hy400
         obtain ⟨ji24, hji24⟩ : ∃ j_ : Int, (wrap64 ((ji20) + 1)) = j_ := ⟨_, rfl⟩
         replace H : (if 0 ≤ (ji24) then (if (ji24) ≤ (t390.length : Int) then ((some (t390.drop ((ji24) : Int).toNat : List (List Int))).bind fun y403 => (if y400.length + y403.length < 5864062014805 then ((image_Decode.f kj6 (y400 ++ y403)).bind fun bt411 => ((undercroftplain_CopyLists.f kj6 t390).bind fun t417 => (if (ji20) < (t390.length : Int) then (if t417.length < 5864062014805 then ((image_Decode.f kj6 (t417 ++ [rd_L5 t390 (ji20)])).bind fun bt424 => ((undercroftlaw12_num.f bt411.2.2).bind fun t430 => (if t430 = 3 then ((undercroftlaw12_num.f bt424.2.2).bind fun t431 => (if t431 = 3 then (some ((wrap64 ((bt411.1.length : Int) + (bt424.1.length : Int))) == 0)) else (none))) else (none)))) else (none)) else (none)))) else (none))) else (none)) else (none)) = some r := by first | (rw [hji24] at H; exact H) | (simp only [hji24] at H ⊢; exact H)
         have hji24w : (IntKind.i64.wrap ((ji20) + 1)) = ji24 := (i64_w _).trans hji24
         by_cases c25 : 0 ≤ (ji24)
         ·rw [if_pos c25] at H
          have c25b0 := eq_true c25
          have c25b1 : decide (0 ≤ (ji24)) = true := decide_eq_true c25
          clear c25
          by_cases c26 : (ji24) ≤ (t390.length : Int)
          ·rw [if_pos c26] at H
           have c26b0 := eq_true c26
           have c26b1 : decide ((ji24) ≤ (t390.length : Int)) = true := decide_eq_true c26
           clear c26
           obtain ⟨y403, hy403⟩ : ∃ y_ : List (List Int), y_ = (t390.drop ((ji24) : Int).toNat) := ⟨_, rfl⟩
           replace H : (if y400.length + y403.length < 5864062014805 then ((image_Decode.f kj6 (y400 ++ y403)).bind fun bt411 => ((undercroftplain_CopyLists.f kj6 t390).bind fun t417 => (if (ji20) < (t390.length : Int) then (if t417.length < 5864062014805 then ((image_Decode.f kj6 (t417 ++ [rd_L5 t390 (ji20)])).bind fun bt424 => ((undercroftlaw12_num.f bt411.2.2).bind fun t430 => (if t430 = 3 then ((undercroftlaw12_num.f bt424.2.2).bind fun t431 => (if t431 = 3 then (some ((wrap64 ((bt411.1.length : Int) + (bt424.1.length : Int))) == 0)) else (none))) else (none)))) else (none)) else (none)))) else (none)) = some r := by first | (rw [hy403]; with_reducible exact H) | (have H2_ := (Option.bind_some _ _).symm.trans H; rw [hy403]; with_reducible exact H2_) | (have H2_ := (Option.bind_some _ _).symm.trans H; with_reducible exact H2_) | with_reducible exact H | (rw [hy403]; exact H) | exact H
           have Ny403 := Aside0.mk hy403
           clear hy403
           by_cases c27 : y400.length + y403.length < 5864062014805
           ·rw [if_pos c27] at H
            have LMc27 := Aside0.mk c27
            clear c27
            obtain ⟨y408, hy408⟩ : ∃ y_ : List (List Int), y_ = (y400 ++ y403) := ⟨_, rfl⟩
            replace H : ((image_Decode.f kj6 y408).bind fun bt411 => ((undercroftplain_CopyLists.f kj6 t390).bind fun t417 => (if (ji20) < (t390.length : Int) then (if t417.length < 5864062014805 then ((image_Decode.f kj6 (t417 ++ [rd_L5 t390 (ji20)])).bind fun bt424 => ((undercroftlaw12_num.f bt411.2.2).bind fun t430 => (if t430 = 3 then ((undercroftlaw12_num.f bt424.2.2).bind fun t431 => (if t431 = 3 then (some ((wrap64 ((bt411.1.length : Int) + (bt424.1.length : Int))) == 0)) else (none))) else (none)))) else (none)) else (none)))) = some r := by first | (rw [hy408]; with_reducible exact H) | (have H2_ := (Option.bind_some _ _).symm.trans H; rw [hy408]; with_reducible exact H2_) | (have H2_ := (Option.bind_some _ _).symm.trans H; with_reducible exact H2_) | with_reducible exact H | (rw [hy408]; exact H) | exact H
            have Ny408 := Aside0.mk hy408
            clear hy408
            replace H := Option.bind_eq_some_iff.mp H
            obtain ⟨⟨t411, t414, t415⟩, A280, H⟩ := H
            replace H : ((undercroftplain_CopyLists.f kj6 t390).bind fun t417 => (if (ji20) < (t390.length : Int) then (if t417.length < 5864062014805 then ((image_Decode.f kj6 (t417 ++ [rd_L5 t390 (ji20)])).bind fun bt424 => ((undercroftlaw12_num.f t415).bind fun t430 => (if t430 = 3 then ((undercroftlaw12_num.f bt424.2.2).bind fun t431 => (if t431 = 3 then (some ((wrap64 ((t411.length : Int) + (bt424.1.length : Int))) == 0)) else (none))) else (none)))) else (none)) else (none))) = some r := H
            have A28 := Aside0.mk A280
            clear A280
            replace H := Option.bind_eq_some_iff.mp H
            obtain ⟨t417, A290, H⟩ := H
            replace H : (if (ji20) < (t390.length : Int) then (if t417.length < 5864062014805 then ((image_Decode.f kj6 (t417 ++ [rd_L5 t390 (ji20)])).bind fun bt424 => ((undercroftlaw12_num.f t415).bind fun t430 => (if t430 = 3 then ((undercroftlaw12_num.f bt424.2.2).bind fun t431 => (if t431 = 3 then (some ((wrap64 ((t411.length : Int) + (bt424.1.length : Int))) == 0)) else (none))) else (none)))) else (none)) else (none)) = some r := H
            have A29 := Aside0.mk A290
            clear A290
            by_cases c30 : (ji20) < (t390.length : Int)
            ·rw [if_pos c30] at H
             have c30b0 : decide ((ji20) < (t390.length : Int)) = true := decide_eq_true c30
             clear c30
             by_cases c31 : t417.length < 5864062014805
             ·rw [if_pos c31] at H
              have LMc31 := Aside0.mk c31
              clear c31
              obtain ⟨y421, hy421⟩ : ∃ y_ : List (List Int), y_ = (t417 ++ [rd_L5 t390 (ji20)]) := ⟨_, rfl⟩
              replace H : ((image_Decode.f kj6 y421).bind fun bt424 => ((undercroftlaw12_num.f t415).bind fun t430 => (if t430 = 3 then ((undercroftlaw12_num.f bt424.2.2).bind fun t431 => (if t431 = 3 then (some ((wrap64 ((t411.length : Int) + (bt424.1.length : Int))) == 0)) else (none))) else (none)))) = some r := by first | (rw [hy421]; with_reducible exact H) | (have H2_ := (Option.bind_some _ _).symm.trans H; rw [hy421]; with_reducible exact H2_) | (have H2_ := (Option.bind_some _ _).symm.trans H; with_reducible exact H2_) | with_reducible exact H | (rw [hy421]; exact H) | exact H
              have Ny421 := Aside0.mk hy421
              clear hy421
              replace H := Option.bind_eq_some_iff.mp H
              obtain ⟨⟨t424, t427, t428⟩, A320, H⟩ := H
              replace H : ((undercroftlaw12_num.f t415).bind fun t430 => (if t430 = 3 then ((undercroftlaw12_num.f t428).bind fun t431 => (if t431 = 3 then (some ((wrap64 ((t411.length : Int) + (t424.length : Int))) == 0)) else (none))) else (none))) = some r := H
              have A32 := Aside0.mk A320
              clear A320
              replace H := Option.bind_eq_some_iff.mp H
              obtain ⟨t430, A330, H⟩ := H
              replace H : (if t430 = 3 then ((undercroftlaw12_num.f t428).bind fun t431 => (if t431 = 3 then (some ((wrap64 ((t411.length : Int) + (t424.length : Int))) == 0)) else (none))) else (none)) = some r := H
              have A33 := Aside0.mk A330
              clear A330
              by_cases c34 : t430 = 3
              ·rw [if_pos c34] at H
               have c34b0 : (t430 == 3) = true := beq_iff_eq.mpr c34
               have c34b1 : (t430 != 3) = false := bne_eq_false_iff_eq.mpr c34
               clear c34
               replace H := Option.bind_eq_some_iff.mp H
               obtain ⟨t431, A350, H⟩ := H
               replace H : (if t431 = 3 then (some ((wrap64 ((t411.length : Int) + (t424.length : Int))) == 0)) else (none)) = some r := H
               have A35 := Aside0.mk A350
               clear A350
               by_cases c36 : t431 = 3
               ·rw [if_pos c36] at H
                have c36b0 : (t431 == 3) = true := beq_iff_eq.mpr c36
                have c36b1 : (t431 != 3) = false := bne_eq_false_iff_eq.mpr c36
                clear c36
                obtain rfl := Option.some.inj H
                obtain ⟨Ao37, co37, eo37⟩ := Kd.N_slice HO_5.out
                subst eo37
                have q38 : ((ji20) : Int) ≤ ((t390.length : Int) : Int) := of_decide_eq_true (by first | (with_reducible assumption) | assumption)
                obtain ⟨i038, hi038, _, hsz38, _⟩ := info_parts info41
                have hroom38 : t390.length ≤ co37 := (Kd.N_reads' HO_5.out).2.1
                have hC38 : Kd.F (Kd.slice 5 (Kd.int .u8)) _ _ Ao37 t390.length t390 := (Kd.V_at (base := w.heap.size) (Kd.N_V HO_5.out)).2.2
                have hcut38 := cut_to (P := Tryz.prog) 26 41 .i64 Tryz.underlying26 hi038 Ao37 t390.length co37 (ji20) (of_decide_eq_true (by first | (with_reducible assumption) | assumption)) q38 hroom38
                have hr38 := Kd.F_take (m := ((ji20) : Int).toNat) hC38 (by omega)
                have hy38 : y395.length = ((ji20) : Int).toNat := (by rw [Ny395.out, List.length_take]; omega)
                rw [← Ny395.out] at hr38
                rw [← hy38] at hcut38
                have HO399 := Aside0.mk (show Kd.V (Kd.slice 5 (Kd.int .u8)) 41 _ w.heap.size _ (.slice Ao37 y395.length co37) y395 from Kd.V_mk (by omega) hr38)
                have HC399 := Aside0.mk (show y395.length ≤ co37 from by omega)
                clear hr38 hC38 hroom38 hi038 hsz38
                have KY38 := Aside0.mk hy38
                clear hy38
                replace q38 := eq_true q38
                go_wp2_with (first | ((with_reducible refine gate_builtin (b := .append) (xs := #[.tmp 45, .tmp 48]) rfl ?_); (try (refine gate_guard (by rfl) ?_; dsimp only)); at_builtin; refine Kd.N_append_rows (Kd.slice 5 (Kd.int .u8)) (w0 := w) w.heap.size rfl (.tmp 45) (.tmp 48) 26 41 (.slice none 0 0) 24 rfl Tryz.underlying26 info41 rfl (by decide) (by omega) (.slice none 0 0) ([] : List (List Int)) y395 _ _ _ (fun k_ => k_ ≠ gb384) (fun k_ => ((fun k_ => k_ ≠ gb384)) k_ ∧ some k_ ≠ (.slice none 0 0 : Value).ownBlock) rfl rfl ?aO ?aR (fun _ hk => hk) ?aF ?aB ?aS ?aL ?_; (case aR => exact (by skip; exact Kd.V_F (Kd.V_mono (ok' := (fun k_ => ((fun k_ => k_ ≠ gb384)) k_ ∧ some k_ ≠ (.slice none 0 0 : Value).ownBlock)) (HO399.out) (fun k_ hk => ⟨hk, (by simp [Value.ownBlock])⟩)))); (case aB => exact (by repeat (first | (with_reducible first | exact HB.out | apply below_alloc | apply pw_below_drewN | apply below_drew1 | refine below_set ?_ GE384.out) | exact HB.out))); (case aF => exact (fun k_ hk => Kd.freshB (g := gb384) (o := .cells #[.slice A0_0 l0_0.length c0_0, .int .i64 a0_1] 24 (0, 0)) (by (with_reducible repeat (first | refine blk_drewN ?_ _ | refine blk_drew ?_ | refine blk_alloc ?_ _)); exact BK384.out) k_ hk)); (case aO => exact ((Kd.N_nil _ _ _ _ (fun k_ => k_ ≠ gb384)))); (case aS => exact (below_size (by repeat (first | (with_reducible first | exact HB.out | apply below_alloc | apply pw_below_drewN | apply below_drew1 | refine below_set ?_ GE384.out) | exact HB.out)))); (case aL => have := LMc23.out; omega); intro v401 w39 ho hb hg hat; rw [← Ny400.out] at ho; have n0_ := Aside0.mk (Kd.N_afterv (Kd.N_apart_nil (by (with_reducible repeat (first | apply Kd.N_alloc | apply Kd.N_drewN | apply Kd.N_drew)); exact HO_5.out)) hg hat); have n1_ := Aside0.mk (blk_grown (g := gb384) (o := .cells #[.slice A0_0 l0_0.length c0_0, .int .i64 a0_1] 24 (0, 0)) (by (with_reducible repeat (first | refine blk_drewN ?_ _ | refine blk_drew ?_ | refine blk_alloc ?_ _)); exact BK384.out) hg (by simp [Value.ownBlock])); have n2_ := Aside0.mk (Kd.V_afterv (Kd.V_apart_nil (by (with_reducible repeat (first | apply Kd.V_alloc | apply Kd.V_drewN | apply Kd.V_drew)); exact HO399.out)) hg hat); have n3_ := Aside0.mk (hb); have n4_ := Aside0.mk (ho); clear HO_5; clear BK384; clear HO399; clear HB; have HO_5 := n0_; have BK384 := n1_; have HO399 := n2_; have HB := n3_; have HO402 := n4_; clear n0_ n1_ n2_ n3_ n4_; clear ho hb hg hat; have q40 : ((ji24) : Int) ≤ ((t390.length : Int) : Int) := of_decide_eq_true (by first | (with_reducible assumption) | assumption); obtain ⟨i040, hi040, _, hsz40, _⟩ := info_parts info41; have hroom40 : t390.length ≤ co37 := (Kd.N_reads' HO_5.out).2.1; have hC40 : Kd.F (Kd.slice 5 (Kd.int .u8)) _ _ Ao37 t390.length t390 := (Kd.V_at (base := w.heap.size) (Kd.N_V HO_5.out)).2.2; have q040 : (0 : Int) ≤ ((ji24) : Int) := of_decide_eq_true (by first | (with_reducible assumption) | assumption); have hcut40 := cut_from (P := Tryz.prog) 26 41 .i64 Tryz.underlying26 hi040 1 hsz40 Ao37 t390.length co37 (ji24) q040 q40; have hr40 := Kd.F_cut (m := ((ji24) : Int).toNat) (c := co37) hC40 (by omega) hroom40; obtain ⟨A40, hA40⟩ : ∃ A1, A1 = (if co37 = ((ji24) : Int).toNat then Ao37 else (Ao37 : Option Addr).map (·.add (((ji24) : Int).toNat * 1))) := ⟨_, rfl⟩; obtain ⟨c40, hc40⟩ : ∃ c1, c1 = co37 - ((ji24) : Int).toNat := ⟨_, rfl⟩; have hy40 : y403.length = t390.length - ((ji24) : Int).toNat := (by rw [Ny403.out, List.length_drop] <;> omega); rw [show (t390).drop ((ji24) : Int).toNat = y403 from Ny403.out.symm] at hr40; replace hr40 : Kd.F (Kd.slice 5 (Kd.int .u8)) _ _ A40 y403.length y403 := (by rw [hA40]; exact hr40); rw [← hy40, ← hA40, ← hc40] at hcut40; have HO407 := Aside0.mk (show Kd.V (Kd.slice 5 (Kd.int .u8)) 41 _ w.heap.size _ (.slice A40 y403.length c40) y403 from Kd.V_mk (by rw [hy40, hc40]; exact Nat.sub_le_sub_right hroom40 _) hr40); have HC407 := Aside0.mk (show y403.length ≤ c40 from by rw [hy40, hc40]; exact Nat.sub_le_sub_right hroom40 _); clear hr40 hC40 hroom40 hi040 hsz40 hc40; have KY40 := Aside0.mk hy40; have KA40 := Aside0.mk hA40; clear hy40 hA40; replace q40 := eq_true q40) | ((with_reducible refine gate_builtin (b := .append) (xs := #[.tmp 50, .tmp 54]) rfl ?_); (try (refine gate_guard (by rfl) ?_; dsimp only)); at_builtin; refine Kd.N_append_rows (Kd.slice 5 (Kd.int .u8)) (w0 := w) w.heap.size rfl (.tmp 50) (.tmp 54) 26 41 (.slice none 0 0) 24 rfl Tryz.underlying26 info41 rfl (by decide) (by omega) v401 y400 y403 _ _ _ (fun k_ => k_ ≠ gb384) (fun k_ => ((fun k_ => k_ ≠ gb384)) k_ ∧ some k_ ≠ (v401 : Value).ownBlock) rfl rfl ?aO ?aR (fun _ hk => hk) ?aF ?aB ?aS ?aL ?_; (case aR => exact (by skip; exact Kd.V_F (Kd.V_mono (ok' := (fun k_ => ((fun k_ => k_ ≠ gb384)) k_ ∧ some k_ ≠ (v401 : Value).ownBlock)) (HO407.out) (fun k_ hk => ⟨hk.1, hk.2⟩)))); (case aB => exact (by repeat (first | (with_reducible first | exact HB.out | apply below_alloc | apply pw_below_drewN | apply below_drew1 | refine below_set ?_ GE384.out) | exact HB.out))); (case aF => exact (fun k_ hk => Kd.freshB (g := gb384) (o := .cells #[.slice A0_0 l0_0.length c0_0, .int .i64 a0_1] 24 (0, 0)) (by (with_reducible repeat (first | refine blk_drewN ?_ _ | refine blk_drew ?_ | refine blk_alloc ?_ _)); exact BK384.out) k_ hk)); (case aO => exact (by (with_reducible repeat (first | apply Kd.N_alloc | apply Kd.N_drewN | apply Kd.N_drew)); exact HO402.out)); (case aS => exact (below_size (by repeat (first | (with_reducible first | exact HB.out | apply below_alloc | apply pw_below_drewN | apply below_drew1 | refine below_set ?_ GE384.out) | exact HB.out)))); (case aL => have := LMc27.out; omega); intro v409 w41 ho hb hg hat; rw [← Ny408.out] at ho; have n0_ := Aside0.mk (Kd.N_afterv (ok := (fun k_ => k_ ≠ gb384)) (by (with_reducible repeat (first | apply Kd.N_alloc | apply Kd.N_drewN | apply Kd.N_drew)); exact HO_5.out) hg hat); have n1_ := Aside0.mk (blk_grown (g := gb384) (o := .cells #[.slice A0_0 l0_0.length c0_0, .int .i64 a0_1] 24 (0, 0)) (by (with_reducible repeat (first | refine blk_drewN ?_ _ | refine blk_drew ?_ | refine blk_alloc ?_ _)); exact BK384.out) hg (Kd.N_ne HO402.out BK384.out (by decide))); have n2_ := Aside0.mk (Kd.V_afterv (ok := (fun k_ => k_ ≠ gb384)) (by (with_reducible repeat (first | apply Kd.V_alloc | apply Kd.V_drewN | apply Kd.V_drew)); exact HO399.out) hg hat); have n3_ := Aside0.mk (Kd.V_afterv (ok := (fun k_ => k_ ≠ gb384)) (by (with_reducible repeat (first | apply Kd.V_alloc | apply Kd.V_drewN | apply Kd.V_drew)); exact HO407.out) hg hat); have n4_ := Aside0.mk (hb); have n5_ := Aside0.mk (ho); clear HO_5; clear BK384; clear HO399; clear HO407; clear HB; clear HO402; have HO_5 := n0_; have BK384 := n1_; have HO399 := n2_; have HO407 := n3_; have HB := n4_; have HO410 := n5_; clear n0_ n1_ n2_ n3_ n4_ n5_; clear ho hb hg hat; obtain ⟨Ao42, co42, eo42⟩ := Kd.N_slice HO410.out; subst eo42) | ((with_reducible refine gate_callee (f := 11) rfl ?_); refine goesL_ (some 58) rfl rfl Tryz.func11 (by kernel_rfl) rfl #[.slice Ao42 y408.length co42] rfl (by (try simp only [List.map_toArray, List.map_cons, List.map_nil]); first | done | rfl | (simp only [List.length_drop, List.length_take]; rfl)) ?_; (with_reducible refine (image_Decode.calls kj6 (fun k_ => k_ ≠ gb384) _ _ y408 t411 t414 t415 _ ?side1 A28.out).mono ?_); (case side1 => exact Kd.N_V (HO410.out)); rintro e w43 ⟨v412, rfl, ho0, hb⟩; refine ⟨_, rfl, ?_⟩; have n0_ := Aside0.mk (Kd.N_below (by (with_reducible repeat (first | apply Kd.N_alloc | apply Kd.N_drewN | apply Kd.N_drew)); exact HO_5.out) hb); have n1_ := Aside0.mk (Kd.V_below (by (with_reducible repeat (first | apply Kd.V_alloc | apply Kd.V_drewN | apply Kd.V_drew)); exact HO399.out) hb); have n2_ := Aside0.mk (Kd.V_below (by (with_reducible repeat (first | apply Kd.V_alloc | apply Kd.V_drewN | apply Kd.V_drew)); exact HO407.out) hb); have n3_ := Aside0.mk (Kd.N_below (by (with_reducible repeat (first | apply Kd.N_alloc | apply Kd.N_drewN | apply Kd.N_drew)); exact HO410.out) hb); have n4_ := Aside0.mk (Kd.V_lower (Kd.V_mono (ok' := fun k_ => k_ ≠ gb384) ho0 (fun k_ hk_ => Or.elim hk_ (fun hs_ => hs_) (fun hn_ => (Kd.freshB (g := gb384) (o := .cells #[.slice A0_0 l0_0.length c0_0, .int .i64 a0_1] 24 (0, 0)) (by (with_reducible repeat (first | refine blk_drewN ?_ _ | refine blk_drew ?_ | refine blk_alloc ?_ _)); exact BK384.out) k_ hn_)))) (below_size (by repeat (first | (with_reducible first | exact HB.out | apply below_alloc | apply pw_below_drewN | apply below_drew1 | refine below_set ?_ GE384.out) | exact HB.out)))); have n5_ := Aside0.mk (blk_below (g := gb384) (o := .cells #[.slice A0_0 l0_0.length c0_0, .int .i64 a0_1] 24 (0, 0)) (by (with_reducible repeat (first | refine blk_drewN ?_ _ | refine blk_drew ?_ | refine blk_alloc ?_ _)); exact BK384.out) hb); have n6_ := Aside0.mk (below_step (by repeat (first | (with_reducible first | exact HB.out | apply below_alloc | apply pw_below_drewN | apply below_drew1 | refine below_set ?_ GE384.out) | exact HB.out)) hb); clear HO_5; clear HO399; clear HO407; clear HO410; clear BK384; clear HB; have HO_5 := n0_; have HO399 := n1_; have HO407 := n2_; have HO410 := n3_; have HO413 := n4_; have BK384 := n5_; have HB := n6_; clear n0_ n1_ n2_ n3_ n4_ n5_ n6_; (try clear hb); (try clear hb2); (try clear hk); (try clear hi); (try clear ho0)) | ((with_reducible refine gate_dst (N := 8) rfl ?_); (try (refine gate_guard (by rfl) ?_; dsimp only)); refine box_event ?hg (N := 8) ?hd (cs := #[.slice none 0 0, .int .i64 0]) (t := 32) ?hr ?_; (case hd => rfl); (case hg => rfl); (case hr => first | (go_simp; done) | (go_simp; rfl)); intro gb416 hg w44 hbox hb; have n0_ := Aside0.mk (Kd.N_below (Kd.N_elderB (by (with_reducible repeat (first | apply Kd.N_alloc | apply Kd.N_drewN | apply Kd.N_drew)); exact HO_5.out) gb416 (Nat.le_of_eq hg.symm)) hb); have n1_ := Aside0.mk (Kd.V_below (Kd.V_elderB (by (with_reducible repeat (first | apply Kd.V_alloc | apply Kd.V_drewN | apply Kd.V_drew)); exact HO399.out) gb416 (Nat.le_of_eq hg.symm)) hb); have n2_ := Aside0.mk (Kd.V_below (Kd.V_elderB (by (with_reducible repeat (first | apply Kd.V_alloc | apply Kd.V_drewN | apply Kd.V_drew)); exact HO407.out) gb416 (Nat.le_of_eq hg.symm)) hb); have n3_ := Aside0.mk (Kd.N_below (Kd.N_elderB (by (with_reducible repeat (first | apply Kd.N_alloc | apply Kd.N_drewN | apply Kd.N_drew)); exact HO410.out) gb416 (Nat.le_of_eq hg.symm)) hb); have n4_ := Aside0.mk (Kd.V_below (Kd.V_elderB (by (with_reducible repeat (first | apply Kd.V_alloc | apply Kd.V_drewN | apply Kd.V_drew)); exact HO413.out) gb416 (Nat.le_of_eq hg.symm)) hb); have n5_ := Aside0.mk (blk_below (g := gb384) (o := .cells #[.slice A0_0 l0_0.length c0_0, .int .i64 a0_1] 24 (0, 0)) (by (with_reducible repeat (first | refine blk_drewN ?_ _ | refine blk_drew ?_ | refine blk_alloc ?_ _)); exact BK384.out) hb); have n6_ := Aside0.mk (below_step (by repeat (first | (with_reducible first | exact HB.out | apply below_alloc | apply pw_below_drewN | apply below_drew1 | refine below_set ?_ GE384.out) | exact HB.out)) hb); have n7_ := Aside0.mk (hbox); have n8_ := Aside0.mk ((by rw [hg]; exact (below_size (by repeat (first | (with_reducible first | exact HB.out | apply below_alloc | apply pw_below_drewN | apply below_drew1 | refine below_set ?_ GE384.out) | exact HB.out))) : w.heap.size ≤ gb416)); have n9_ := Aside0.mk ((by rw [hg]; exact (below_size (by repeat (first | (with_reducible first | exact HB.out | apply below_alloc | apply pw_below_drewN | apply below_drew1 | refine below_set ?_ GE384.out) | exact HB.out))) : w.heap.size ≤ gb416)); have n10_ := Aside0.mk ((by rw [hg]; exact Nat.ne_of_lt (blk_lt (g := gb384) (o := .cells #[.slice A0_0 l0_0.length c0_0, .int .i64 a0_1] 24 (0, 0)) (by (with_reducible repeat (first | refine blk_drewN ?_ _ | refine blk_drew ?_ | refine blk_alloc ?_ _)); exact BK384.out)) : gb384 ≠ gb416)); have n11_ := Aside0.mk ((by rw [hg]; exact Nat.ne_of_gt (blk_lt (g := gb384) (o := .cells #[.slice A0_0 l0_0.length c0_0, .int .i64 a0_1] 24 (0, 0)) (by (with_reducible repeat (first | refine blk_drewN ?_ _ | refine blk_drew ?_ | refine blk_alloc ?_ _)); exact BK384.out)) : gb416 ≠ gb384)); clear HO_5; clear HO399; clear HO407; clear HO410; clear HO413; clear BK384; clear HB; have HO_5 := n0_; have HO399 := n1_; have HO407 := n2_; have HO410 := n3_; have HO413 := n4_; have BK384 := n5_; have HB := n6_; have BK416 := n7_; have GW416 := n8_; have GE416 := n9_; have NB384_416 := n10_; have NB416_384 := n11_; clear n0_ n1_ n2_ n3_ n4_ n5_ n6_ n7_ n8_ n9_ n10_ n11_; clear hb hbox hg; obtain ⟨Ao45, co45, eo45⟩ := Kd.V_slice HO413.out; subst eo45; have hnb46 := NB416_384.out; have hnc46 := NB384_416.out; have hcz47_0 : w44.cell? ⟨gb416, 0, none⟩ = some (.slice none 0 0) := (blk_cell BK416.out 0).trans rfl; have hcz47_1 : w44.cell? ⟨gb416, 1, none⟩ = some (.int .i64 0) := (blk_cell BK416.out 1).trans rfl; have hfz47_0 := blk_frozen BK416.out 0; have hfz47_1 := blk_frozen BK416.out 1))
                obtain ⟨WW, hWW⟩ : ∃ W, W = (w44.setCell ⟨gb416, 0, none⟩ (.slice Ao45 t411.length co45)).setCell ⟨gb416, 1, none⟩ (.int .i64 t414) := ⟨_, rfl⟩
                have HNW : Aside0 (Kd.N (Kd.slice 5 (Kd.int .u8)) 41 WW w.heap.size (fun k_ => k_ ≠ gb416) (.slice Ao37 t390.length co37) t390) := ⟨by rw [hWW]; exact Kd.N_mono (Kd.N_far (p := ⟨gb416, 1, none⟩) (Kd.N_far (p := ⟨gb416, 0, none⟩) (Kd.N_mono HO_5.out (fun k_ hk => (⟨hk, hk.2⟩ : _ ∧ k_ ≠ gb416))) (fun _ hk => hk.2) (.slice Ao45 t411.length co45)) (fun _ hk => hk.2) (.int .i64 t414)) (fun _ h_ => h_.2)⟩
                have HBK : Aside0 (WW.heap[gb416]? = some (.cells #[.slice Ao45 t411.length co45, .int .i64 t414] 32 (0, 0))) := ⟨by rw [hWW]; refine blk_put (cs := #[.slice Ao45 t411.length co45, .int .i64 0]) ?_ 1 _ rfl; refine blk_put (cs := #[.slice none 0 0, .int .i64 0]) ?_ 0 _ rfl; exact BK416.out⟩
                have HBWW : Aside0 (Below w.heap.size w WW) := ⟨by rw [hWW]; exact below_set (below_set HB.out GE416.out) GE416.out⟩
                rw [← hWW]
                clear hWW
                have p420 : 0 ≤ ((ji20) : Int) := of_decide_eq_true (by first | (with_reducible assumption) | assumption)
                have q420 : (ji20) < (t390.length : Int) := of_decide_eq_true (by first | (with_reducible assumption) | assumption)
                have HRM : Aside0 (t390.length ≤ co37) := ⟨(Kd.N_reads' HNW.out).2.1⟩
                have hcl := (Kd.N_reads' HNW.out).2.2
                obtain ⟨ad, A5, c5, e420, hx420, hl420, hi420⟩ := at_L5 hcl (ji20) p420 q420
                subst e420
                have HCL : Aside0 (CLd WW (some ad) t390) := ⟨hcl⟩
                obtain ⟨x, hx5⟩ : ∃ x, x = rd_L5 t390 (ji20) := ⟨_, rfl⟩
                have HX5 := Aside0.mk hx5
                rw [← hx5] at hx420 hl420 hi420
                have HX := Aside0.mk hi420
                have HXC := Aside0.mk hl420
                have HS : Aside0 (∀ W, Below WW.heap.size WW W → W.cell? (ad.add (ji20).toNat) = some (.slice A5 x.length c5)) := ⟨fun W h => (h.cell (World.block_lt_of_cell? WW _ hx420)).trans hx420⟩
                have HSW := Aside0.mk (HS.out WW.drew (below_drew1 (Below.refl _ _)))
                clear HO_5 HO399 HO407 HO410 HO413 BK384 BK416 HNW hcl hl420 hi420 hx5 HB
                refine start_ (n := 15) (S := fun W => W.cell? (ad.add (ji20).toNat) = some (.slice A5 x.length c5)) (ds := []) #[false, false, false, false, false, false, false, false, false, false, false, false, false, false, false] (by kernel_rfl) rfl rfl HSW.out (fun hHeld => ?_); refine with_tabW iw_tab11 iw_bits11 (fun HT_ HW_ => ?_)
                refine pure_ (i := 0) (N := some 62) (v := ?_) (a' := ?_) #[true, false, false, false, false, false, false, false, false, false, false, false, false, false, false] rfl rfl (any_of HT_.out (by kernel_rfl)) (fun _ _ _ h => h) (Or.inl ⟨by rfl, ?_⟩) ?_ ?_
                rotate_left
                ·intro w'
                 go_simp
                 with_reducible rfl
                rotate_left
                ·simp only [putAll, Act.put, List.setIfInBounds_toArray, List.set_cons_zero, List.set_cons_succ, i64_w, i32_w]
                 rfl
                refine pure_ (i := 2) (N := some 64) (v := ?_) (a' := ?_) #[true, false, true, false, false, false, false, false, false, false, false, false, false, false, false] rfl rfl (any_of HT_.out (by kernel_rfl)) (fun _ _ _ h => h) (Or.inl ⟨by rfl, ?_⟩) ?_ ?_
                rotate_left
                ·intro w'
                 go_simp
                 with_reducible rfl
                rotate_left
                ·simp only [putAll, Act.put, List.setIfInBounds_toArray, List.set_cons_zero, List.set_cons_succ, i64_w, i32_w]
                 rfl
                refine pure_ (i := 3) (N := some 65) (v := ?_) (a' := ?_) #[true, false, true, true, false, false, false, false, false, false, false, false, false, false, false] rfl rfl (any_of HT_.out (by kernel_rfl)) (fun _ _ _ h => h) (Or.inl ⟨by rfl, ?_⟩) ?_ ?_
                rotate_left
                ·intro w'
                 go_simp
                 with_reducible rfl
                rotate_left
                ·simp only [putAll, Act.put, List.setIfInBounds_toArray, List.set_cons_zero, List.set_cons_succ, i64_w, i32_w]
                 rfl
                refine pure_ (i := 4) (N := some 66) (v := ?_) (a' := ?_) #[true, false, true, true, true, false, false, false, false, false, false, false, false, false, false] rfl rfl (any_of HT_.out (by kernel_rfl)) (fun _ _ _ h => h) (Or.inl ⟨by rfl, ?_⟩) ?_ ?_
                rotate_left
                ·intro w'
                 go_simp
                 with_reducible rfl
                rotate_left
                ·simp only [putAll, Act.put, List.setIfInBounds_toArray, List.set_cons_zero, List.set_cons_succ, i64_w, i32_w]
                 rfl
                refine take_ (i := 5) (N := some 67) (v := ?_) (a' := ?_) #[true, false, true, true, true, true, false, false, false, false, false, false, false, false, false] rfl rfl (take_ofW HT_.out HW_.out (by kernel_rfl)) (fun _ _ _ h => h) (Or.inl ⟨by rfl, ?_⟩) hHeld ?_ ?_
                rotate_left
                ·rintro w' s0
                 go_simp
                 with_reducible rfl
                rotate_left
                ·simp only [putAll, Act.put, List.setIfInBounds_toArray, List.set_cons_zero, List.set_cons_succ, i64_w, i32_w]
                 rfl
                have HBW0 : Aside0 (Below WW.heap.size WW WW.drew) := ⟨below_drew1 (Below.refl _ _)⟩
                have HBw0 : Aside0 (Below w.heap.size w WW.drew) := ⟨below_drew1 HBWW.out⟩
                clear hx420
                refine join_ (σ := Value × Value × Value × Option Addr × Nat × Nat) 2 #[true, true, true, true, true, true, true, true, true, true, true, true, true, false, false] (fun s => [(63, s.1), (68, s.2.1), (69, s.2.2.1), (70, .tuple #[.agg #[.slice s.2.2.2.1 t424.length s.2.2.2.2.1, .int .i64 t427], .int .i64 t428]), (61, .tuple #[.agg #[.slice s.2.2.2.1 t424.length s.2.2.2.2.1, .int .i64 t427], .int .i64 t428]), (71, .agg #[.slice s.2.2.2.1 t424.length s.2.2.2.2.1, .int .i64 t427]), (72, .int .i64 t428), (10, .pointer (some ⟨s.2.2.2.2.2, 0, none⟩))]) (fun s W => Below w.heap.size w W ∧ Below WW.heap.size WW W ∧ G12 WW W s.2.2.2.2.2) ?hJE (fun JE => ?_)
                case hJE =>
                 as_aux_lemma =>
                  rintro ⟨y63, y68, y69, Az, cz, b⟩ W ⟨HBw, HBW, h12⟩
                  refine norm_ (a' := ?_) ?_ ?_
                  rotate_left
                  ·simp only [putAll, Act.put, List.setIfInBounds_toArray, List.set_cons_zero, List.set_cons_succ, i64_w, i32_w]
                   rfl
                  have hb0 := blk_cell h12.1 0
                  have hb1 := blk_cell h12.1 1
                  have hf0 := blk_frozen h12.1 0
                  have hf1 := blk_frozen h12.1 1
                  refine one_ (i := 13) (N := none) #[true, true, true, true, true, true, true, true, true, true, true, true, true, true, false] rfl rfl (one_of HT_.out (by kernel_rfl)) (by decide) (fun K hK => ?_)
                  refine skip_ (w1 := (W.setCell ⟨b, 0, none⟩ (.slice Az t424.length cz)).setCell ⟨b, 1, none⟩ (.int .i64 t427)) (by rfl) rfl ?_ ?_
                  ·go_simp
                   first | done | rfl
                  have hbA : Below WW.heap.size WW ((W.setCell ⟨b, 0, none⟩ (.slice Az t424.length cz)).setCell ⟨b, 1, none⟩ (.int .i64 t427)) := (HBW.setCell (p := ⟨b, 0, none⟩) h12.2 _).setCell (p := ⟨b, 1, none⟩) h12.2 _
                  have hbB : Below w.heap.size w ((W.setCell ⟨b, 0, none⟩ (.slice Az t424.length cz)).setCell ⟨b, 1, none⟩ (.int .i64 t427)) := (HBw.setCell (p := ⟨b, 0, none⟩) (Nat.le_trans HBWW.out.size h12.2) _).setCell (p := ⟨b, 1, none⟩) (Nat.le_trans HBWW.out.size h12.2) _
                  have hbk : ((W.setCell ⟨b, 0, none⟩ (.slice Az t424.length cz)).setCell ⟨b, 1, none⟩ (.int .i64 t427)).heap[b]? = some (.cells #[.slice Az t424.length cz, .int .i64 t427] 32 (0, 0)) := by refine blk_put (cs := #[.slice Az t424.length cz, .int .i64 0]) ?_ 1 _ rfl; exact blk_put (cs := #[.slice none 0 0, .int .i64 0]) h12.1 0 _ rfl
                  generalize (W.setCell ⟨b, 0, none⟩ (.slice Az t424.length cz)).setCell ⟨b, 1, none⟩ (.int .i64 t427) = Wf at *
                  refine hK.out _ _ (HS.out _ hbA) (fun hHeld2 => ?_)
                  clear hK K
                  refine pure_ (i := 14) (N := some 11) (v := ?_) (a' := ?_) #[true, true, true, true, true, true, true, true, true, true, true, true, true, true, true] rfl rfl (any_of HT_.out (by kernel_rfl)) (fun _ _ _ h => h) (Or.inl ⟨by rfl, ?_⟩) ?_ ?_
                  rotate_left
                  ·intro w'
                   go_simp
                   with_reducible rfl
                  rotate_left
                  ·simp only [putAll, Act.put, List.setIfInBounds_toArray, List.set_cons_zero, List.set_cons_succ, i64_w, i32_w]
                   rfl
                  refine done_ (done_of HT_.out (by kernel_rfl)) ?_
                  have hk416 := (hbA.block gb416 (blk_lt HBK.out)).trans HBK.out
                  have c4_0 := (blk_cell hk416 0).trans rfl
                  have c4_1 := (blk_cell hk416 1).trans rfl
                  have c5_0 := (blk_cell hbk 0).trans rfl
                  have c5_1 := (blk_cell hbk 1).trans rfl
                  have HBF := Aside0.mk hbB
                  clear hbA hbB hbk hk416 h12 HBw HBW hb0 hb1 hf0 hf1 HT_ HW_ hHeld hHeld2
                  go_wp2_with (first | ((with_reducible refine gate_callee (f := 9) rfl ?_); refine goesL_ (some 74) rfl rfl Tryz.func9 (by kernel_rfl) rfl #[.int .i64 t415] rfl (by (try simp only [List.map_toArray, List.map_cons, List.map_nil]); first | done | rfl | (simp only [List.length_drop, List.length_take]; rfl)) ?_; (with_reducible refine (undercroftlaw12_num.calls t415 t430 _ A33.out).mono ?_); rintro e w' ⟨rfl, ⟨nd, rfl⟩⟩; refine ⟨_, rfl, ?_⟩) | (go_at_call 9; (with_reducible refine (undercroftlaw12_num.calls t428 t431 _ A35.out).mono ?_); rintro e w' ⟨rfl, ⟨nd, rfl⟩⟩))
                  go_ret
                  exact ⟨by first | rfl | (simp [errW_none, errW_some] <;> rfl) | (simp only [← hji20, ← hji24]; first | rfl | (simp [errW_none, errW_some] <;> rfl)) | (simp [*, errW_none, errW_some] <;> rfl) | (exfalso; simp only [beq_iff_eq, decide_eq_true_eq] at *; omega), by repeat (first | (with_reducible first | exact HBF.out | apply pw_below_drewN | apply below_drew1) | exact HBF.out)⟩
                refine join_ (σ := Value × Value × Value × Value × Nat) 5 #[true, true, true, true, true, true, true, true, true, false, false, false, true, false, false] (fun s => [(63, s.1), (68, s.2.1), (69, s.2.2.1), (70, s.2.2.2.1), (10, .pointer (some ⟨s.2.2.2.2, 0, none⟩))]) (fun s W => match s with | ⟨y63, y68, y69, z, b⟩ => (Below w.heap.size w W ∧ Below WW.heap.size WW W ∧ Z8 z t424 t427 t428 ∧ G12 WW W b)) ?hJ1_6_7_8_12 (fun J1_6_7_8_12 => ?_)
                case hJ1_6_7_8_12 =>
                 as_aux_lemma =>
                  rintro ⟨y63, y68, y69, z, b⟩ W ⟨HBw, HBW, h8, h12⟩
                  obtain ⟨Az, cz, rfl⟩ := h8
                  refine norm_ (a' := ?_) ?_ ?_
                  rotate_left
                  ·simp only [putAll, Act.put, List.setIfInBounds_toArray, List.set_cons_zero, List.set_cons_succ, i64_w, i32_w]
                   rfl
                  refine pure_ (i := 9) (N := some 61) (v := ?_) (a' := ?_) #[true, true, true, true, true, true, true, true, true, true, false, false, true, false, false] rfl rfl (any_of HT_.out (by kernel_rfl)) (fun _ _ _ h => h) (Or.inl ⟨by rfl, ?_⟩) ?_ ?_
                  rotate_left
                  ·intro w'
                   go_simp
                   with_reducible rfl
                  rotate_left
                  ·simp only [putAll, Act.put, List.setIfInBounds_toArray, List.set_cons_zero, List.set_cons_succ, i64_w, i32_w]
                   rfl
                  refine pure_ (i := 10) (N := some 71) (v := ?_) (a' := ?_) #[true, true, true, true, true, true, true, true, true, true, true, false, true, false, false] rfl rfl (any_of HT_.out (by kernel_rfl)) (fun _ _ _ h => h) (Or.inl ⟨by rfl, ?_⟩) ?_ ?_
                  rotate_left
                  ·intro w'
                   go_simp
                   with_reducible rfl
                  rotate_left
                  ·simp only [putAll, Act.put, List.setIfInBounds_toArray, List.set_cons_zero, List.set_cons_succ, i64_w, i32_w]
                   rfl
                  refine pure_ (i := 11) (N := some 72) (v := ?_) (a' := ?_) #[true, true, true, true, true, true, true, true, true, true, true, true, true, false, false] rfl rfl (any_of HT_.out (by kernel_rfl)) (fun _ _ _ h => h) (Or.inl ⟨by rfl, ?_⟩) ?_ ?_
                  rotate_left
                  ·intro w'
                   go_simp
                   with_reducible rfl
                  rotate_left
                  ·simp only [putAll, Act.put, List.setIfInBounds_toArray, List.set_cons_zero, List.set_cons_succ, i64_w, i32_w]
                   rfl
                  refine norm_ (a' := _) ?_ (JE ⟨y63, y68, y69, Az, cz, b⟩ _ ⟨HBw, HBW, h12⟩)
                  simp only [putAll, Act.put, List.setIfInBounds_toArray, List.set_cons_zero, List.set_cons_succ, i64_w, i32_w]
                  first | done | rfl
                refine join_ (σ := Value × Value × Value × Value) 6 #[true, true, true, true, true, true, true, true, true, false, false, false, false, false, false] (fun s => [(63, s.1), (68, s.2.1), (69, s.2.2.1), (70, s.2.2.2)]) (fun s W => match s with | ⟨y63, y68, y69, z⟩ => (Below w.heap.size w W ∧ Below WW.heap.size WW W ∧ Z8 z t424 t427 t428)) ?hJ1_6_7_8 (fun J1_6_7_8 => ?_)
                case hJ1_6_7_8 =>
                 as_aux_lemma =>
                  rintro ⟨y63, y68, y69, z⟩ W ⟨HBw, HBW, h8⟩
                  obtain ⟨Az, cz, rfl⟩ := h8
                  refine norm_ (a' := ?_) ?_ ?_
                  rotate_left
                  ·simp only [putAll, Act.put, List.setIfInBounds_toArray, List.set_cons_zero, List.set_cons_succ, i64_w, i32_w]
                   rfl
                  refine pure_ (i := 9) (N := some 61) (v := ?_) (a' := ?_) #[true, true, true, true, true, true, true, true, true, true, false, false, false, false, false] rfl rfl (any_of HT_.out (by kernel_rfl)) (fun _ _ _ h => h) (Or.inl ⟨by rfl, ?_⟩) ?_ ?_
                  rotate_left
                  ·intro w'
                   go_simp
                   with_reducible rfl
                  rotate_left
                  ·simp only [putAll, Act.put, List.setIfInBounds_toArray, List.set_cons_zero, List.set_cons_succ, i64_w, i32_w]
                   rfl
                  refine pure_ (i := 10) (N := some 71) (v := ?_) (a' := ?_) #[true, true, true, true, true, true, true, true, true, true, true, false, false, false, false] rfl rfl (any_of HT_.out (by kernel_rfl)) (fun _ _ _ h => h) (Or.inl ⟨by rfl, ?_⟩) ?_ ?_
                  rotate_left
                  ·intro w'
                   go_simp
                   with_reducible rfl
                  rotate_left
                  ·simp only [putAll, Act.put, List.setIfInBounds_toArray, List.set_cons_zero, List.set_cons_succ, i64_w, i32_w]
                   rfl
                  refine pure_ (i := 11) (N := some 72) (v := ?_) (a' := ?_) #[true, true, true, true, true, true, true, true, true, true, true, true, false, false, false] rfl rfl (any_of HT_.out (by kernel_rfl)) (fun _ _ _ h => h) (Or.inl ⟨by rfl, ?_⟩) ?_ ?_
                  rotate_left
                  ·intro w'
                   go_simp
                   with_reducible rfl
                  rotate_left
                  ·simp only [putAll, Act.put, List.setIfInBounds_toArray, List.set_cons_zero, List.set_cons_succ, i64_w, i32_w]
                   rfl
                  refine one_ (i := 12) (N := some 10) #[true, true, true, true, true, true, true, true, true, true, true, true, true, false, false] rfl rfl (one_of HT_.out (by kernel_rfl)) (by decide) (fun K hK => ?_)
                  refine value_ (w1 := ?_) (v := ?_) (by rfl) rfl ?_ ?_
                  rotate_left 2
                  ·go_simp
                   constructor
                   ·rfl
                   ·rfl
                  have hb := below_alloc (Below.refl W.heap.size W) (.cells #[.slice none 0 0, .int .i64 0] 32)
                  have h12 : G12 WW (W.alloc (.cells #[.slice none 0 0, .int .i64 0] 32)) W.heap.size := ⟨(MapKept.heap_alloc _ _).1, HBW.size⟩
                  replace HBw := HBw.trans (Below.mono hb HBw.size)
                  replace HBW := HBW.trans (Below.mono hb HBW.size)
                  generalize W.heap.size = b at *
                  generalize W.alloc (.cells #[.slice none 0 0, .int .i64 0] 32) = W2 at *
                  clear hb
                  refine hK.out _ _ (HS.out _ HBW) (fun hHeld => ?_)
                  clear hK K
                  try clear W
                  refine norm_ (a' := _) ?_ (JE ⟨y63, y68, y69, Az, cz, b⟩ _ ⟨HBw, HBW, h12⟩)
                  simp only [putAll, Act.put, List.setIfInBounds_toArray, List.set_cons_zero, List.set_cons_succ, i64_w, i32_w]
                  first | done | rfl
                refine join_ (σ := Value × Value × Value × Nat) 6 #[true, true, true, true, true, true, true, true, false, false, false, false, true, false, false] (fun s => [(63, s.1), (68, s.2.1), (69, s.2.2.1), (10, .pointer (some ⟨s.2.2.2, 0, none⟩))]) (fun s W => match s with | ⟨y63, y68, u, b⟩ => (Below w.heap.size w W ∧ Below WW.heap.size WW W ∧ G7 w y421 W u ∧ G12 WW W b)) ?hJ1_6_7_12 (fun J1_6_7_12 => ?_)
                case hJ1_6_7_12 =>
                 as_aux_lemma =>
                  rintro ⟨y63, y68, u, b⟩ W ⟨HBw, HBW, h7, h12⟩
                  refine norm_ (a' := ?_) ?_ ?_
                  rotate_left
                  ·simp only [putAll, Act.put, List.setIfInBounds_toArray, List.set_cons_zero, List.set_cons_succ, i64_w, i32_w]
                   rfl
                  refine one_ (i := 8) (N := some 70) #[true, true, true, true, true, true, true, true, true, false, false, false, true, false, false] rfl rfl (one_of HT_.out (by kernel_rfl)) (by decide) (fun K hK => ?_)
                  obtain ⟨Au, cu, rfl⟩ := Kd.N_slice h7
                  refine goes_ Tryz.func11 (by kernel_rfl) rfl #[.slice Au y421.length cu] (by rfl) rfl rfl (by (try simp only [List.map_toArray, List.map_cons, List.map_nil]); first | done | rfl) ?_
                  refine (image_Decode.calls kj6 (fun _ => True) _ _ y421 t424 t427 t428 _ (Kd.N_V h7) A32.out).mono ?_
                  rintro e_ W2 ⟨v2, rfl, ho0, hb⟩
                  obtain ⟨Az, cz, rfl⟩ := Kd.V_slice ho0
                  refine ⟨_, rfl, ?_⟩
                  replace HBw := HBw.trans (Below.mono hb HBw.size)
                  replace HBW := HBW.trans (Below.mono hb HBW.size)
                  replace h12 := G12.below h12 hb
                  clear ho0 hb h7
                  obtain ⟨z, hz⟩ : ∃ z : Value, z = .tuple #[.agg #[.slice Az t424.length cz, .int .i64 t427], .int .i64 t428] := ⟨_, rfl⟩
                  have h8 : Z8 z t424 t427 t428 := ⟨Az, cz, hz⟩
                  rw [← hz]
                  clear hz
                  refine hK.out _ _ (HS.out _ HBW) (fun hHeld => ?_)
                  clear hK K
                  try clear W
                  refine norm_ (a' := _) ?_ (J1_6_7_8_12 ⟨y63, y68, .slice Au y421.length cu, z, b⟩ _ ⟨HBw, HBW, h8, h12⟩)
                  simp only [putAll, Act.put, List.setIfInBounds_toArray, List.set_cons_zero, List.set_cons_succ, i64_w, i32_w]
                  first | done | rfl
                refine join_ (σ := Value × Value × Value) 7 #[true, true, true, true, true, true, true, true, false, false, false, false, false, false, false] (fun s => [(63, s.1), (68, s.2.1), (69, s.2.2)]) (fun s W => match s with | ⟨y63, y68, u⟩ => (Below w.heap.size w W ∧ Below WW.heap.size WW W ∧ G7 w y421 W u)) ?hJ1_6_7 (fun J1_6_7 => ?_)
                case hJ1_6_7 =>
                 as_aux_lemma =>
                  rintro ⟨y63, y68, u⟩ W ⟨HBw, HBW, h7⟩
                  refine norm_ (a' := ?_) ?_ ?_
                  rotate_left
                  ·simp only [putAll, Act.put, List.setIfInBounds_toArray, List.set_cons_zero, List.set_cons_succ, i64_w, i32_w]
                   rfl
                  refine two_ (i := 8) (j := 12) (Ni := some 70) (Nj := some 10) #[true, true, true, true, true, true, true, true, true, false, false, false, false, false, false] #[true, true, true, true, true, true, true, true, false, false, false, false, true, false, false] rfl rfl rfl rfl (two_of HT_.out (by kernel_rfl)) (by decide) (by decide) (fun K hK => ?g8) (fun K hK => ?g12)
                  case g8 =>
                   obtain ⟨Au, cu, rfl⟩ := Kd.N_slice h7
                   refine goes_ Tryz.func11 (by kernel_rfl) rfl #[.slice Au y421.length cu] (by rfl) rfl rfl (by (try simp only [List.map_toArray, List.map_cons, List.map_nil]); first | done | rfl) ?_
                   refine (image_Decode.calls kj6 (fun _ => True) _ _ y421 t424 t427 t428 _ (Kd.N_V h7) A32.out).mono ?_
                   rintro e_ W2 ⟨v2, rfl, ho0, hb⟩
                   obtain ⟨Az, cz, rfl⟩ := Kd.V_slice ho0
                   refine ⟨_, rfl, ?_⟩
                   replace HBw := HBw.trans (Below.mono hb HBw.size)
                   replace HBW := HBW.trans (Below.mono hb HBW.size)
                   clear ho0 hb h7
                   obtain ⟨z, hz⟩ : ∃ z : Value, z = .tuple #[.agg #[.slice Az t424.length cz, .int .i64 t427], .int .i64 t428] := ⟨_, rfl⟩
                   have h8 : Z8 z t424 t427 t428 := ⟨Az, cz, hz⟩
                   rw [← hz]
                   clear hz
                   refine hK.out _ _ (HS.out _ HBW) (fun hHeld => ?_)
                   clear hK K
                   try clear W
                   refine norm_ (a' := _) ?_ (J1_6_7_8 ⟨y63, y68, .slice Au y421.length cu, z⟩ _ ⟨HBw, HBW, h8⟩)
                   simp only [putAll, Act.put, List.setIfInBounds_toArray, List.set_cons_zero, List.set_cons_succ, i64_w, i32_w]
                   first | done | rfl
                  case g12 =>
                   refine value_ (w1 := ?_) (v := ?_) (by rfl) rfl ?_ ?_
                   rotate_left 2
                   ·go_simp
                    constructor
                    ·rfl
                    ·rfl
                   have hb := below_alloc (Below.refl W.heap.size W) (.cells #[.slice none 0 0, .int .i64 0] 32)
                   have h12 : G12 WW (W.alloc (.cells #[.slice none 0 0, .int .i64 0] 32)) W.heap.size := ⟨(MapKept.heap_alloc _ _).1, HBW.size⟩
                   replace HBw := HBw.trans (Below.mono hb HBw.size)
                   replace HBW := HBW.trans (Below.mono hb HBW.size)
                   replace h7 := G7.below h7 hb
                   generalize W.heap.size = b at *
                   generalize W.alloc (.cells #[.slice none 0 0, .int .i64 0] 32) = W2 at *
                   clear hb
                   refine hK.out _ _ (HS.out _ HBW) (fun hHeld => ?_)
                   clear hK K
                   try clear W
                   refine norm_ (a' := _) ?_ (J1_6_7_12 ⟨y63, y68, u, b⟩ _ ⟨HBw, HBW, h7, h12⟩)
                   simp only [putAll, Act.put, List.setIfInBounds_toArray, List.set_cons_zero, List.set_cons_succ, i64_w, i32_w]
                   first | done | rfl
                refine join_ (σ := Value × Nat × Nat) 7 #[true, true, true, true, true, true, true, false, false, false, false, false, true, false, false] (fun s => [(63, s.1), (68, .slice (some ⟨s.2.1, 0, none⟩) 1 1), (10, .pointer (some ⟨s.2.2, 0, none⟩))]) (fun s W => match s with | ⟨v, m, b⟩ => (Below w.heap.size w W ∧ Below WW.heap.size WW W ∧ G1 w WW t417 W v ∧ G6 WW A5 c5 x W m ∧ some m ≠ v.ownBlock ∧ G12 WW W b)) ?hJ1_6_12 (fun J1_6_12 => ?_)
                case hJ1_6_12 =>
                 as_aux_lemma =>
                  rintro ⟨v, m, b⟩ W ⟨HBw, HBW, h1, h6, hne, h12⟩
                  refine norm_ (a' := ?_) ?_ ?_
                  rotate_left
                  ·simp only [putAll, Act.put, List.setIfInBounds_toArray, List.set_cons_zero, List.set_cons_succ, i64_w, i32_w]
                   rfl
                  refine one_ (i := 7) (N := some 69) #[true, true, true, true, true, true, true, true, false, false, false, false, true, false, false] rfl rfl (one_of HT_.out (by kernel_rfl)) (by decide) (fun K hK => ?_)
                  refine Kd.N_append_rows_step (Kd.slice 5 (Kd.int .u8)) (w0 := w) w.heap.size (by rfl) (.tmp 63) (.tmp 68) 26 41 (.slice none 0 0) 24 rfl Tryz.underlying26 info41 rfl (by decide) (by omega) v t417 [x] (some ⟨m, 0, none⟩) 1 1 (fun _ => True) (fun k => k = m ∨ k < WW.heap.size) rfl rfl (Kd.N_mono h1 (fun _ _ => trivial)) (F_one HX.out HXC.out HBW h6.1) (fun k hk => ⟨trivial, hk.elim (fun e => by rw [e]; exact hne) (fun hlt e => absurd (h1.1 k e.symm) (Nat.not_le.2 hlt))⟩) (fun _ _ => trivial) HBw HBw.size (by have := LMc31.out; omega) ?_
                  intro u W2 ho hb hg hat
                  rw [HX5.out, ← Ny421.out] at ho
                  have h7 : G7 w y421 W2 u := ho
                  replace h12 : G12 WW W2 b := ⟨blk_grown h12.1 hg (Kd.N_ne h1 h12.1 (by decide)), h12.2⟩
                  replace HBW := pw_below_grown HBW v.ownBlock HBW.size hg (fun k e => h1.1 k e)
                  replace HBw := hb
                  clear ho hb hg hat h1 h6 hne
                  refine hK.out _ _ (HS.out _ HBW) (fun hHeld => ?_)
                  clear hK K
                  try clear W
                  refine norm_ (a' := _) ?_ (J1_6_7_12 ⟨v, .slice (some ⟨m, 0, none⟩) 1 1, u, b⟩ _ ⟨HBw, HBW, h7, h12⟩)
                  simp only [putAll, Act.put, List.setIfInBounds_toArray, List.set_cons_zero, List.set_cons_succ, i64_w, i32_w]
                  first | done | rfl
                refine join_ (σ := Value × Nat) 8 #[true, true, true, true, true, true, true, false, false, false, false, false, false, false, false] (fun s => [(63, s.1), (68, .slice (some ⟨s.2, 0, none⟩) 1 1)]) (fun s W => match s with | ⟨v, m⟩ => (Below w.heap.size w W ∧ Below WW.heap.size WW W ∧ G1 w WW t417 W v ∧ G6 WW A5 c5 x W m ∧ some m ≠ v.ownBlock)) ?hJ1_6 (fun J1_6 => ?_)
                case hJ1_6 =>
                 as_aux_lemma =>
                  rintro ⟨v, m⟩ W ⟨HBw, HBW, h1, h6, hne⟩
                  refine norm_ (a' := ?_) ?_ ?_
                  rotate_left
                  ·simp only [putAll, Act.put, List.setIfInBounds_toArray, List.set_cons_zero, List.set_cons_succ, i64_w, i32_w]
                   rfl
                  refine two_ (i := 7) (j := 12) (Ni := some 69) (Nj := some 10) #[true, true, true, true, true, true, true, true, false, false, false, false, false, false, false] #[true, true, true, true, true, true, true, false, false, false, false, false, true, false, false] rfl rfl rfl rfl (two_of HT_.out (by kernel_rfl)) (by decide) (by decide) (fun K hK => ?g7) (fun K hK => ?g12)
                  case g7 =>
                   refine Kd.N_append_rows_step (Kd.slice 5 (Kd.int .u8)) (w0 := w) w.heap.size (by rfl) (.tmp 63) (.tmp 68) 26 41 (.slice none 0 0) 24 rfl Tryz.underlying26 info41 rfl (by decide) (by omega) v t417 [x] (some ⟨m, 0, none⟩) 1 1 (fun _ => True) (fun k => k = m ∨ k < WW.heap.size) rfl rfl (Kd.N_mono h1 (fun _ _ => trivial)) (F_one HX.out HXC.out HBW h6.1) (fun k hk => ⟨trivial, hk.elim (fun e => by rw [e]; exact hne) (fun hlt e => absurd (h1.1 k e.symm) (Nat.not_le.2 hlt))⟩) (fun _ _ => trivial) HBw HBw.size (by have := LMc31.out; omega) ?_
                   intro u W2 ho hb hg hat
                   rw [HX5.out, ← Ny421.out] at ho
                   have h7 : G7 w y421 W2 u := ho
                   replace HBW := pw_below_grown HBW v.ownBlock HBW.size hg (fun k e => h1.1 k e)
                   replace HBw := hb
                   clear ho hb hg hat h1 h6 hne
                   refine hK.out _ _ (HS.out _ HBW) (fun hHeld => ?_)
                   clear hK K
                   try clear W
                   refine norm_ (a' := _) ?_ (J1_6_7 ⟨v, .slice (some ⟨m, 0, none⟩) 1 1, u⟩ _ ⟨HBw, HBW, h7⟩)
                   simp only [putAll, Act.put, List.setIfInBounds_toArray, List.set_cons_zero, List.set_cons_succ, i64_w, i32_w]
                   first | done | rfl
                  case g12 =>
                   refine value_ (w1 := ?_) (v := ?_) (by rfl) rfl ?_ ?_
                   rotate_left 2
                   ·go_simp
                    constructor
                    ·rfl
                    ·rfl
                   have hb := below_alloc (Below.refl W.heap.size W) (.cells #[.slice none 0 0, .int .i64 0] 32)
                   have h12 : G12 WW (W.alloc (.cells #[.slice none 0 0, .int .i64 0] 32)) W.heap.size := ⟨(MapKept.heap_alloc _ _).1, HBW.size⟩
                   replace HBw := HBw.trans (Below.mono hb HBw.size)
                   replace HBW := HBW.trans (Below.mono hb HBW.size)
                   replace h1 := G1.below h1 hb
                   replace h6 := G6.below h6 hb
                   generalize W.heap.size = b at *
                   generalize W.alloc (.cells #[.slice none 0 0, .int .i64 0] 32) = W2 at *
                   clear hb
                   refine hK.out _ _ (HS.out _ HBW) (fun hHeld => ?_)
                   clear hK K
                   try clear W
                   refine norm_ (a' := _) ?_ (J1_6_12 ⟨v, m, b⟩ _ ⟨HBw, HBW, h1, h6, hne, h12⟩)
                   simp only [putAll, Act.put, List.setIfInBounds_toArray, List.set_cons_zero, List.set_cons_succ, i64_w, i32_w]
                   first | done | rfl
                refine join_ (σ := Value × Nat) 8 #[true, true, true, true, true, true, false, false, false, false, false, false, true, false, false] (fun s => [(63, s.1), (10, .pointer (some ⟨s.2, 0, none⟩))]) (fun s W => match s with | ⟨v, b⟩ => (Below w.heap.size w W ∧ Below WW.heap.size WW W ∧ G1 w WW t417 W v ∧ G12 WW W b)) ?hJ1_12 (fun J1_12 => ?_)
                case hJ1_12 =>
                 as_aux_lemma =>
                  rintro ⟨v, b⟩ W ⟨HBw, HBW, h1, h12⟩
                  refine norm_ (a' := ?_) ?_ ?_
                  rotate_left
                  ·simp only [putAll, Act.put, List.setIfInBounds_toArray, List.set_cons_zero, List.set_cons_succ, i64_w, i32_w]
                   rfl
                  refine one_ (i := 6) (N := some 68) #[true, true, true, true, true, true, true, false, false, false, false, false, true, false, false] rfl rfl (one_of HT_.out (by kernel_rfl)) (by decide) (fun K hK => ?_)
                  refine value_ (w1 := ?_) (v := ?_) (by rfl) rfl ?_ ?_
                  rotate_left 2
                  ·go_simp
                   constructor
                   ·rfl
                   ·rfl
                  have hb := below_alloc (Below.refl W.heap.size W) (.cells #[.slice A5 x.length c5] 41)
                  have h6 : G6 WW A5 c5 x (W.alloc (.cells #[.slice A5 x.length c5] 41)) W.heap.size := ⟨(MapKept.heap_alloc _ _).1, HBW.size⟩
                  have hne : some W.heap.size ≠ v.ownBlock := fun e => absurd (Kd.N_lt h1 _ e.symm) (Nat.lt_irrefl _)
                  replace HBw := HBw.trans (Below.mono hb HBw.size)
                  replace HBW := HBW.trans (Below.mono hb HBW.size)
                  replace h1 := G1.below h1 hb
                  replace h12 := G12.below h12 hb
                  generalize W.heap.size = m at *
                  generalize W.alloc (.cells #[.slice A5 x.length c5] 41) = W2 at *
                  clear hb
                  refine hK.out _ _ (HS.out _ HBW) (fun hHeld => ?_)
                  clear hK K
                  try clear W
                  refine norm_ (a' := _) ?_ (J1_6_12 ⟨v, m, b⟩ _ ⟨HBw, HBW, h1, h6, hne, h12⟩)
                  simp only [putAll, Act.put, List.setIfInBounds_toArray, List.set_cons_zero, List.set_cons_succ, i64_w, i32_w]
                  first | done | rfl
                refine join_ (σ := Nat × Nat) 8 #[true, false, true, true, true, true, true, false, false, false, false, false, true, false, false] (fun s => [(68, .slice (some ⟨s.1, 0, none⟩) 1 1), (10, .pointer (some ⟨s.2, 0, none⟩))]) (fun s W => match s with | ⟨m, b⟩ => (Below w.heap.size w W ∧ Below WW.heap.size WW W ∧ G6 WW A5 c5 x W m ∧ G12 WW W b)) ?hJ6_12 (fun J6_12 => ?_)
                case hJ6_12 =>
                 as_aux_lemma =>
                  rintro ⟨m, b⟩ W ⟨HBw, HBW, h6, h12⟩
                  refine norm_ (a' := ?_) ?_ ?_
                  rotate_left
                  ·simp only [putAll, Act.put, List.setIfInBounds_toArray, List.set_cons_zero, List.set_cons_succ, i64_w, i32_w]
                   rfl
                  refine one_ (i := 1) (N := some 63) #[true, true, true, true, true, true, true, false, false, false, false, false, true, false, false] rfl rfl (one_of HT_.out (by kernel_rfl)) (by decide) (fun K hK => ?_)
                  refine goes_ Tryz.func13 (by kernel_rfl) rfl #[.slice (some ad) t390.length co37] (by rfl) rfl rfl (by (try simp only [List.map_toArray, List.map_cons, List.map_nil]); first | done | rfl) ?_
                  refine (undercroftplain_CopyLists.calls kj6 _ _ t390 t417 _ (HCL.out.imp_bel HBW) HRM.out A29.out).mono ?_
                  rintro e_ W2 ⟨v, rfl, ho0, hb⟩
                  refine ⟨_, rfl, ?_⟩
                  have h1 := G1.new HBw.size HBW.size ho0
                  have hne : some m ≠ v.ownBlock := fun e => absurd (Kd.S_base ho0 m e.symm) (Nat.not_le.2 (blk_lt h6.1))
                  replace HBw := HBw.trans (Below.mono hb HBw.size)
                  replace HBW := HBW.trans (Below.mono hb HBW.size)
                  replace h6 := G6.below h6 hb
                  replace h12 := G12.below h12 hb
                  clear ho0 hb
                  refine hK.out _ _ (HS.out _ HBW) (fun hHeld => ?_)
                  clear hK K
                  try clear W
                  refine norm_ (a' := _) ?_ (J1_6_12 ⟨v, m, b⟩ _ ⟨HBw, HBW, h1, h6, hne, h12⟩)
                  simp only [putAll, Act.put, List.setIfInBounds_toArray, List.set_cons_zero, List.set_cons_succ, i64_w, i32_w]
                  first | done | rfl
                refine join_ (σ := Value) 9 #[true, true, true, true, true, true, false, false, false, false, false, false, false, false, false] (fun s => [(63, s)]) (fun s W => match s with | v => (Below w.heap.size w W ∧ Below WW.heap.size WW W ∧ G1 w WW t417 W v)) ?hJ1 (fun J1 => ?_)
                case hJ1 =>
                 as_aux_lemma =>
                  rintro v W ⟨HBw, HBW, h1⟩
                  refine norm_ (a' := ?_) ?_ ?_
                  rotate_left
                  ·simp only [putAll, Act.put, List.setIfInBounds_toArray, List.set_cons_zero, List.set_cons_succ, i64_w, i32_w]
                   rfl
                  refine two_ (i := 6) (j := 12) (Ni := some 68) (Nj := some 10) #[true, true, true, true, true, true, true, false, false, false, false, false, false, false, false] #[true, true, true, true, true, true, false, false, false, false, false, false, true, false, false] rfl rfl rfl rfl (two_of HT_.out (by kernel_rfl)) (by decide) (by decide) (fun K hK => ?g6) (fun K hK => ?g12)
                  case g6 =>
                   refine value_ (w1 := ?_) (v := ?_) (by rfl) rfl ?_ ?_
                   rotate_left 2
                   ·go_simp
                    constructor
                    ·rfl
                    ·rfl
                   have hb := below_alloc (Below.refl W.heap.size W) (.cells #[.slice A5 x.length c5] 41)
                   have h6 : G6 WW A5 c5 x (W.alloc (.cells #[.slice A5 x.length c5] 41)) W.heap.size := ⟨(MapKept.heap_alloc _ _).1, HBW.size⟩
                   have hne : some W.heap.size ≠ v.ownBlock := fun e => absurd (Kd.N_lt h1 _ e.symm) (Nat.lt_irrefl _)
                   replace HBw := HBw.trans (Below.mono hb HBw.size)
                   replace HBW := HBW.trans (Below.mono hb HBW.size)
                   replace h1 := G1.below h1 hb
                   generalize W.heap.size = m at *
                   generalize W.alloc (.cells #[.slice A5 x.length c5] 41) = W2 at *
                   clear hb
                   refine hK.out _ _ (HS.out _ HBW) (fun hHeld => ?_)
                   clear hK K
                   try clear W
                   refine norm_ (a' := _) ?_ (J1_6 ⟨v, m⟩ _ ⟨HBw, HBW, h1, h6, hne⟩)
                   simp only [putAll, Act.put, List.setIfInBounds_toArray, List.set_cons_zero, List.set_cons_succ, i64_w, i32_w]
                   first | done | rfl
                  case g12 =>
                   refine value_ (w1 := ?_) (v := ?_) (by rfl) rfl ?_ ?_
                   rotate_left 2
                   ·go_simp
                    constructor
                    ·rfl
                    ·rfl
                   have hb := below_alloc (Below.refl W.heap.size W) (.cells #[.slice none 0 0, .int .i64 0] 32)
                   have h12 : G12 WW (W.alloc (.cells #[.slice none 0 0, .int .i64 0] 32)) W.heap.size := ⟨(MapKept.heap_alloc _ _).1, HBW.size⟩
                   replace HBw := HBw.trans (Below.mono hb HBw.size)
                   replace HBW := HBW.trans (Below.mono hb HBW.size)
                   replace h1 := G1.below h1 hb
                   generalize W.heap.size = b at *
                   generalize W.alloc (.cells #[.slice none 0 0, .int .i64 0] 32) = W2 at *
                   clear hb
                   refine hK.out _ _ (HS.out _ HBW) (fun hHeld => ?_)
                   clear hK K
                   try clear W
                   refine norm_ (a' := _) ?_ (J1_12 ⟨v, b⟩ _ ⟨HBw, HBW, h1, h12⟩)
                   simp only [putAll, Act.put, List.setIfInBounds_toArray, List.set_cons_zero, List.set_cons_succ, i64_w, i32_w]
                   first | done | rfl
                refine join_ (σ := Nat) 9 #[true, false, true, true, true, true, true, false, false, false, false, false, false, false, false] (fun s => [(68, .slice (some ⟨s, 0, none⟩) 1 1)]) (fun s W => match s with | m => (Below w.heap.size w W ∧ Below WW.heap.size WW W ∧ G6 WW A5 c5 x W m)) ?hJ6 (fun J6 => ?_)
                case hJ6 =>
                 as_aux_lemma =>
                  rintro m W ⟨HBw, HBW, h6⟩
                  refine norm_ (a' := ?_) ?_ ?_
                  rotate_left
                  ·simp only [putAll, Act.put, List.setIfInBounds_toArray, List.set_cons_zero, List.set_cons_succ, i64_w, i32_w]
                   rfl
                  refine two_ (i := 1) (j := 12) (Ni := some 63) (Nj := some 10) #[true, true, true, true, true, true, true, false, false, false, false, false, false, false, false] #[true, false, true, true, true, true, true, false, false, false, false, false, true, false, false] rfl rfl rfl rfl (two_of HT_.out (by kernel_rfl)) (by decide) (by decide) (fun K hK => ?g1) (fun K hK => ?g12)
                  case g1 =>
                   refine goes_ Tryz.func13 (by kernel_rfl) rfl #[.slice (some ad) t390.length co37] (by rfl) rfl rfl (by (try simp only [List.map_toArray, List.map_cons, List.map_nil]); first | done | rfl) ?_
                   refine (undercroftplain_CopyLists.calls kj6 _ _ t390 t417 _ (HCL.out.imp_bel HBW) HRM.out A29.out).mono ?_
                   rintro e_ W2 ⟨v, rfl, ho0, hb⟩
                   refine ⟨_, rfl, ?_⟩
                   have h1 := G1.new HBw.size HBW.size ho0
                   have hne : some m ≠ v.ownBlock := fun e => absurd (Kd.S_base ho0 m e.symm) (Nat.not_le.2 (blk_lt h6.1))
                   replace HBw := HBw.trans (Below.mono hb HBw.size)
                   replace HBW := HBW.trans (Below.mono hb HBW.size)
                   replace h6 := G6.below h6 hb
                   clear ho0 hb
                   refine hK.out _ _ (HS.out _ HBW) (fun hHeld => ?_)
                   clear hK K
                   try clear W
                   refine norm_ (a' := _) ?_ (J1_6 ⟨v, m⟩ _ ⟨HBw, HBW, h1, h6, hne⟩)
                   simp only [putAll, Act.put, List.setIfInBounds_toArray, List.set_cons_zero, List.set_cons_succ, i64_w, i32_w]
                   first | done | rfl
                  case g12 =>
                   refine value_ (w1 := ?_) (v := ?_) (by rfl) rfl ?_ ?_
                   rotate_left 2
                   ·go_simp
                    constructor
                    ·rfl
                    ·rfl
                   have hb := below_alloc (Below.refl W.heap.size W) (.cells #[.slice none 0 0, .int .i64 0] 32)
                   have h12 : G12 WW (W.alloc (.cells #[.slice none 0 0, .int .i64 0] 32)) W.heap.size := ⟨(MapKept.heap_alloc _ _).1, HBW.size⟩
                   replace HBw := HBw.trans (Below.mono hb HBw.size)
                   replace HBW := HBW.trans (Below.mono hb HBW.size)
                   replace h6 := G6.below h6 hb
                   generalize W.heap.size = b at *
                   generalize W.alloc (.cells #[.slice none 0 0, .int .i64 0] 32) = W2 at *
                   clear hb
                   refine hK.out _ _ (HS.out _ HBW) (fun hHeld => ?_)
                   clear hK K
                   try clear W
                   refine norm_ (a' := _) ?_ (J6_12 ⟨m, b⟩ _ ⟨HBw, HBW, h6, h12⟩)
                   simp only [putAll, Act.put, List.setIfInBounds_toArray, List.set_cons_zero, List.set_cons_succ, i64_w, i32_w]
                   first | done | rfl
                refine join_ (σ := Nat) 9 #[true, false, true, true, true, true, false, false, false, false, false, false, true, false, false] (fun s => [(10, .pointer (some ⟨s, 0, none⟩))]) (fun s W => match s with | b => (Below w.heap.size w W ∧ Below WW.heap.size WW W ∧ G12 WW W b)) ?hJ12 (fun J12 => ?_)
                case hJ12 =>
                 as_aux_lemma =>
                  rintro b W ⟨HBw, HBW, h12⟩
                  refine norm_ (a' := ?_) ?_ ?_
                  rotate_left
                  ·simp only [putAll, Act.put, List.setIfInBounds_toArray, List.set_cons_zero, List.set_cons_succ, i64_w, i32_w]
                   rfl
                  refine two_ (i := 1) (j := 6) (Ni := some 63) (Nj := some 68) #[true, true, true, true, true, true, false, false, false, false, false, false, true, false, false] #[true, false, true, true, true, true, true, false, false, false, false, false, true, false, false] rfl rfl rfl rfl (two_of HT_.out (by kernel_rfl)) (by decide) (by decide) (fun K hK => ?g1) (fun K hK => ?g6)
                  case g1 =>
                   refine goes_ Tryz.func13 (by kernel_rfl) rfl #[.slice (some ad) t390.length co37] (by rfl) rfl rfl (by (try simp only [List.map_toArray, List.map_cons, List.map_nil]); first | done | rfl) ?_
                   refine (undercroftplain_CopyLists.calls kj6 _ _ t390 t417 _ (HCL.out.imp_bel HBW) HRM.out A29.out).mono ?_
                   rintro e_ W2 ⟨v, rfl, ho0, hb⟩
                   refine ⟨_, rfl, ?_⟩
                   have h1 := G1.new HBw.size HBW.size ho0
                   replace HBw := HBw.trans (Below.mono hb HBw.size)
                   replace HBW := HBW.trans (Below.mono hb HBW.size)
                   replace h12 := G12.below h12 hb
                   clear ho0 hb
                   refine hK.out _ _ (HS.out _ HBW) (fun hHeld => ?_)
                   clear hK K
                   try clear W
                   refine norm_ (a' := _) ?_ (J1_12 ⟨v, b⟩ _ ⟨HBw, HBW, h1, h12⟩)
                   simp only [putAll, Act.put, List.setIfInBounds_toArray, List.set_cons_zero, List.set_cons_succ, i64_w, i32_w]
                   first | done | rfl
                  case g6 =>
                   refine value_ (w1 := ?_) (v := ?_) (by rfl) rfl ?_ ?_
                   rotate_left 2
                   ·go_simp
                    constructor
                    ·rfl
                    ·rfl
                   have hb := below_alloc (Below.refl W.heap.size W) (.cells #[.slice A5 x.length c5] 41)
                   have h6 : G6 WW A5 c5 x (W.alloc (.cells #[.slice A5 x.length c5] 41)) W.heap.size := ⟨(MapKept.heap_alloc _ _).1, HBW.size⟩
                   replace HBw := HBw.trans (Below.mono hb HBw.size)
                   replace HBW := HBW.trans (Below.mono hb HBW.size)
                   replace h12 := G12.below h12 hb
                   generalize W.heap.size = m at *
                   generalize W.alloc (.cells #[.slice A5 x.length c5] 41) = W2 at *
                   clear hb
                   refine hK.out _ _ (HS.out _ HBW) (fun hHeld => ?_)
                   clear hK K
                   try clear W
                   refine norm_ (a' := _) ?_ (J6_12 ⟨m, b⟩ _ ⟨HBw, HBW, h6, h12⟩)
                   simp only [putAll, Act.put, List.setIfInBounds_toArray, List.set_cons_zero, List.set_cons_succ, i64_w, i32_w]
                   first | done | rfl
                have HBW := HBW0.out
                have HBw := HBw0.out
                generalize WW.drew = W at *
                refine three_ (i := 1) (j := 6) (k := 12) (Ni := some 63) (Nj := some 68) (Nk := some 10) #[true, true, true, true, true, true, false, false, false, false, false, false, false, false, false] #[true, false, true, true, true, true, true, false, false, false, false, false, false, false, false] #[true, false, true, true, true, true, false, false, false, false, false, false, true, false, false] rfl rfl rfl rfl rfl rfl (three_of HT_.out (by kernel_rfl)) (by decide) (by decide) (by decide) (fun K hK => ?g1) (fun K hK => ?g6) (fun K hK => ?g12)
                case g1 =>
                 refine goes_ Tryz.func13 (by kernel_rfl) rfl #[.slice (some ad) t390.length co37] (by rfl) rfl rfl (by (try simp only [List.map_toArray, List.map_cons, List.map_nil]); first | done | rfl) ?_
                 refine (undercroftplain_CopyLists.calls kj6 _ _ t390 t417 _ (HCL.out.imp_bel HBW) HRM.out A29.out).mono ?_
                 rintro e_ W2 ⟨v, rfl, ho0, hb⟩
                 refine ⟨_, rfl, ?_⟩
                 have h1 := G1.new HBw.size HBW.size ho0
                 replace HBw := HBw.trans (Below.mono hb HBw.size)
                 replace HBW := HBW.trans (Below.mono hb HBW.size)
                 clear ho0 hb
                 refine hK.out _ _ (HS.out _ HBW) (fun hHeld => ?_)
                 clear hK K
                 try clear W
                 refine norm_ (a' := _) ?_ (J1 v _ ⟨HBw, HBW, h1⟩)
                 simp only [putAll, Act.put, List.setIfInBounds_toArray, List.set_cons_zero, List.set_cons_succ, i64_w, i32_w]
                 first | done | rfl
                case g6 =>
                 refine value_ (w1 := ?_) (v := ?_) (by rfl) rfl ?_ ?_
                 rotate_left 2
                 ·go_simp
                  constructor
                  ·rfl
                  ·rfl
                 have hb := below_alloc (Below.refl W.heap.size W) (.cells #[.slice A5 x.length c5] 41)
                 have h6 : G6 WW A5 c5 x (W.alloc (.cells #[.slice A5 x.length c5] 41)) W.heap.size := ⟨(MapKept.heap_alloc _ _).1, HBW.size⟩
                 replace HBw := HBw.trans (Below.mono hb HBw.size)
                 replace HBW := HBW.trans (Below.mono hb HBW.size)
                 generalize W.heap.size = m at *
                 generalize W.alloc (.cells #[.slice A5 x.length c5] 41) = W2 at *
                 clear hb
                 refine hK.out _ _ (HS.out _ HBW) (fun hHeld => ?_)
                 clear hK K
                 try clear W
                 refine norm_ (a' := _) ?_ (J6 m _ ⟨HBw, HBW, h6⟩)
                 simp only [putAll, Act.put, List.setIfInBounds_toArray, List.set_cons_zero, List.set_cons_succ, i64_w, i32_w]
                 first | done | rfl
                case g12 =>
                 refine value_ (w1 := ?_) (v := ?_) (by rfl) rfl ?_ ?_
                 rotate_left 2
                 ·go_simp
                  constructor
                  ·rfl
                  ·rfl
                 have hb := below_alloc (Below.refl W.heap.size W) (.cells #[.slice none 0 0, .int .i64 0] 32)
                 have h12 : G12 WW (W.alloc (.cells #[.slice none 0 0, .int .i64 0] 32)) W.heap.size := ⟨(MapKept.heap_alloc _ _).1, HBW.size⟩
                 replace HBw := HBw.trans (Below.mono hb HBw.size)
                 replace HBW := HBW.trans (Below.mono hb HBW.size)
                 generalize W.heap.size = b at *
                 generalize W.alloc (.cells #[.slice none 0 0, .int .i64 0] 32) = W2 at *
                 clear hb
                 refine hK.out _ _ (HS.out _ HBW) (fun hHeld => ?_)
                 clear hK K
                 try clear W
                 refine norm_ (a' := _) ?_ (J12 b _ ⟨HBw, HBW, h12⟩)
                 simp only [putAll, Act.put, List.setIfInBounds_toArray, List.set_cons_zero, List.set_cons_succ, i64_w, i32_w]
                 first | done | rfl
               ·rw [if_neg c36] at H
                exact absurd H (by simp)
              ·rw [if_neg c34] at H
               exact absurd H (by simp)
             ·rw [if_neg c31] at H
              exact absurd H (by simp)
            ·rw [if_neg c30] at H
             exact absurd H (by simp)
           ·rw [if_neg c27] at H
            exact absurd H (by simp)
          ·rw [if_neg c26] at H
           exact absurd H (by simp)
         ·rw [if_neg c25] at H
          exact absurd H (by simp)
        ·rw [if_neg c23] at H
         exact absurd H (by simp)
       ·rw [if_neg c22] at H
        exact absurd H (by simp)
      ·rw [if_neg c21] at H
       exact absurd H (by simp)
 ·rw [if_neg c4] at H
  exact absurd H (by simp)
end Go.Proofs.YtfakjmjkodkceaaGreatDoor.PImw
