-- The law itself, walked by hand.
import Derived.Test.YtokjiinlhghggaaDoorPTelx0
import Derived.Test.YtokjiinlhghggaaDoorPTelx1
import Derived.Test.YtokjiinlhghggaaDoorPTelx2
import Derived.Test.YtokjiinlhghggaaDoorPTelx3
import Derived.Test.YtokjiinlhghggaaDoorPTelx4
import Derived.Test.YtokjiinlhghggaaDoorPTelx5
import Derived.Test.YtokjiinlhghggaaDoorPTelx6
import Derived.Test.YtokjiinlhghggaaDoorPTelx7
import Derived.Test.YtokjiinlhghggaaDoorPTelx8
import Derived.Test.YtokjiinlhghggaaDoorPTelx9
import Derived.Test.YtokjiinlhghggaaDoorPTelx10
import Derived.Test.YtokjiinlhghggaaDoorPTelx11
import Derived.Deep.RegionWith
import Derived.BigRegion
import Derived.Lib.SliceRun
import Derived.Lib.Hide
import Derived.LaidEql
namespace Go.Proofs.YtokjiinlhghggaaDoor.PTel
open Go.RowKit Go.Proofs.YtokjiinlhghggaaDoorW.PrintWords Go.Proofs.YtokjiinlhghggaaDoorW.PrintLast Go.Proofs.YtokjiinlhghggaaDoorW.PrintMore
open Go.Proofs.YtokjiinlhghggaaDoor.Own
attribute [local go_sem high] unary_not_u32 unary_not_u64 unary_not_u8 string_leq_ string_gtr_
attribute [local go_sem] max2_int min2_int max_two min_two max_three min_three max_four min_four   -- for this text's walks alone
set_option linter.unusedVariables false
set_option linter.unusedSimpArgs false
def st_T8 : Bool × List (List Nat × List Nat) := (true, [([], []), ([], []), ([0, 1], [0, 1]), ([2, 2], [2]), ([3], [3]), ([4, 3, 3], [3, 4]), ([3], [3]), ([5, 6, 3], [3, 5, 6]), ([3, 7], [3, 7]), ([8, 5], [8]), ([9], [9]), ([9], [9]), ([10, 11, 9, 9], [9, 10, 11]), ([12, 9], [9, 12]), ([9, 13], [9, 13]), ([14, 12], [14]), ([15], [15]), ([16, 15, 15], [15, 16]), ([15], [15]), ([17, 18, 15], [15, 17, 18]), ([15, 19], [15, 19]), ([20, 17], [20]), ([21], [21]), ([21], [21]), ([22, 23, 21, 21], [21, 22, 23]), ([21, 24], [21, 24]), ([25, 24], [25]), ([26], [26]), ([27, 26, 26], [26, 27]), ([26], [26]), ([28, 29, 26], [26, 28, 29]), ([26, 30], [26, 30]), ([31, 28], [31]), ([32], [32]), ([33, 32, 32], [32, 33]), ([34, 34, 32], [32, 34]), ([32], [32]), ([36, 35, 32], [32, 36]), ([35, 37, 32], [32, 35, 37]), ([32, 38], [32, 38]), ([39, 37], [39]), ([40], [40]), ([40], [40]), ([41, 42, 40, 40], [40, 41, 42]), ([43, 40], [40, 43]), ([40, 44], [40, 44]), ([45, 43], [45]), ([46], [46]), ([46], [46]), ([47, 48, 46, 46], [46, 47, 48]), ([46, 49], [46, 49]), ([50, 49], [50]), ([51, 51], [51]), ([51, 52], [51, 52]), ([53, 52, 0, 1, 2, 3, 4, 5, 6, 7, 8, 9, 10, 11, 12, 13, 14, 15, 16, 17, 18, 19, 20, 21, 22, 23, 24, 25, 26, 27, 28, 29, 30, 31, 32, 33, 34, 35, 36, 37, 38, 39, 40, 41, 42, 43, 44, 45, 46, 47, 48, 49, 50, 51, 52, 53], [53])])
def st_B8 : List Nat := [0, 0, 3, 7, 15, 31, 15, 127, 255, 511, 1023, 1023, 4095, 8191, 16383, 32767, 65535, 131071, 65535, 524287, 1048575, 2097151, 4194303, 4194303, 16777215, 33554431, 67108863, 134217727, 268435455, 134217727, 1073741823, 2147483647, 4294967295, 8589934591, 17179869183, 34359738367, 8589934591, 137438953471, 274877906943, 549755813887, 1099511627775, 2199023255551, 2199023255551, 8796093022207, 17592186044415, 35184372088831, 70368744177663, 140737488355327, 140737488355327, 562949953421311, 1125899906842623, 2251799813685247, 4503599627370495, 9007199254740991, 18014398509481983]
theorem st_tab8 : rtab .any (opsOf Tryd.f7 8) = st_T8 := by kernel_rfl
theorem st_bits8 : waitsOk st_T8.2 st_B8 = true := by kernel_rfl
def undercroftlaw13_SegmentTells.f (k : Nat) (n : Int) (l : List S60) (b : List Int) : Option Bool := (undercroftlaw13_Of.f k n l).bind fun x => (undercroftplain_CopyBytes.f b).bind fun o => (segment_Seal.f k x.1 x.2).bind fun p => (undercroftref13_Seal.f k n l).bind fun q => (segment_Open.f o).bind fun u => (undercroftref13_Open.f k b).bind fun v => (segment_Owners.f k x.1 x.2).bind fun c => (undercroftref13_Owners.f k n l).bind fun d => (segment_Check.f x.1 x.2).bind fun e => (undercroftref13_Check.f k n l).bind fun e' => if p.2 = q.2 ∧ u.2.2 = v.2.2 ∧ c.2 = d.2 ∧ e = e' then ((undercroftplain_SameBytes.f k p.1 q.1).bind fun t1 => (undercroftlaw13_Alike.f k u.1 u.2.1 v.1 v.2.1).bind fun t2 => (undercroftplain_SameInts.f k c.1 d.1).bind fun t3 => (undercroftlaw13_Alike.f k x.1 x.2 n l).bind fun t4 => (undercroftplain_SameBytes.f k o b).bind fun t5 => (undercroftlaw13_alive.f k).bind fun t6 => if t1 = true ∧ t2 = 0 ∧ t3 = true ∧ t4 = 0 ∧ t5 = true ∧ t6 = true then some true else none) else none
theorem undercroftlaw13_SegmentTells.mono : ∀ a0 a1 a2 k, LeO (undercroftlaw13_SegmentTells.f k a0 a1 a2) (undercroftlaw13_SegmentTells.f (k + 1) a0 a1 a2) := by
  intro a0 a1 a2 k
  unfold undercroftlaw13_SegmentTells.f
  exact LeO.bind (undercroftlaw13_Of.mono _ _ k) (fun _ => LeO.bind (LeO.refl _) (fun _ => LeO.bind (segment_Seal.mono _ _ k) (fun _ => LeO.bind (undercroftref13_Seal.mono _ _ k) (fun _ => LeO.bind (LeO.refl _) (fun _ => LeO.bind (undercroftref13_Open.mono _ k) (fun _ => LeO.bind (segment_Owners.mono _ _ k) (fun _ => LeO.bind (undercroftref13_Owners.mono _ _ k) (fun _ => LeO.bind (LeO.refl _) (fun _ => LeO.bind (undercroftref13_Check.mono _ _ k) (fun _ => LeO.ite (LeO.bind (undercroftplain_SameBytes.mono _ _ k) (fun _ => LeO.bind (undercroftlaw13_Alike.mono _ _ _ _ k) (fun _ => LeO.bind (undercroftplain_SameInts.mono _ _ k) (fun _ => LeO.bind (undercroftlaw13_Alike.mono _ _ _ _ k) (fun _ => LeO.bind (undercroftplain_SameBytes.mono _ _ k) (fun _ => LeO.bind (undercroftlaw13_alive.mono k) (fun _ => LeO.refl _))))))) (LeO.refl _)))))))))))
set_option maxHeartbeats 8000000 in
set_option maxRecDepth 100000 in
theorem undercroftlaw13_SegmentTells.calls (k : Nat) (a0_0 : Int) (A0_1 : Option Addr) (c0_1 : Nat) (l0_1 : List (S60)) (A1 : Option Addr) (c1 : Nat) (l1 : List Int) (r : Bool) (w : World) (hr0_1 : Kd.C k60 w A0_1 l0_1.length l0_1) (hc0_1 : l0_1.length ≤ c0_1) (hr1 : Kd.C (Kd.int .u8) w A1 l1.length l1) (hc1 : l1.length ≤ c1) (h : undercroftlaw13_SegmentTells.f k a0_0 l0_1 l1 = some r) :
    Calls Tryd.prog 7 #[.agg #[.int .i64 a0_0, .slice A0_1 l0_1.length c0_1], .slice A1 l1.length c1] w fun e w' => e = .returned (.bool r) ∧ Below w.heap.size w w' := by
  have hu24 := Tryd.underlying24
  have hu32 := Tryd.underlying32
  have HR0 := Aside0.mk hr0_1
  have HC0 := Aside0.mk hc0_1
  have HR1 := Aside0.mk hr1
  have HC1 := Aside0.mk hc1
  unfold undercroftlaw13_SegmentTells.f at h
  obtain ⟨⟨x1, x2⟩, h1, g1⟩ := Option.bind_eq_some_iff.1 h
  obtain ⟨o, h2, g2⟩ := Option.bind_eq_some_iff.1 g1
  obtain ⟨⟨p1, p2⟩, h3, g3⟩ := Option.bind_eq_some_iff.1 g2
  obtain ⟨⟨q1, q2⟩, h4, g4⟩ := Option.bind_eq_some_iff.1 g3
  obtain ⟨⟨u1, u2, u3⟩, h5, g5⟩ := Option.bind_eq_some_iff.1 g4
  obtain ⟨⟨v1, v2, v3⟩, h6, g6⟩ := Option.bind_eq_some_iff.1 g5
  obtain ⟨⟨m1, m2⟩, h7, g7⟩ := Option.bind_eq_some_iff.1 g6
  obtain ⟨⟨d1, d2⟩, h8, g8⟩ := Option.bind_eq_some_iff.1 g7
  obtain ⟨e1, h9, g9⟩ := Option.bind_eq_some_iff.1 g8
  obtain ⟨e2, h10, g10⟩ := Option.bind_eq_some_iff.1 g9
  simp only at g10
  by_cases hc : p2 = q2 ∧ u3 = v3 ∧ m2 = d2 ∧ e1 = e2
  case neg => rw [if_neg hc] at g10; cases g10
  rw [if_pos hc] at g10
  obtain ⟨t1, h11, g11⟩ := Option.bind_eq_some_iff.1 g10
  obtain ⟨t2, h12, g12⟩ := Option.bind_eq_some_iff.1 g11
  obtain ⟨t3, h13, g13⟩ := Option.bind_eq_some_iff.1 g12
  obtain ⟨t4, h14, g14⟩ := Option.bind_eq_some_iff.1 g13
  obtain ⟨t5, h15, g15⟩ := Option.bind_eq_some_iff.1 g14
  obtain ⟨t6, h16, g16⟩ := Option.bind_eq_some_iff.1 g15
  by_cases hd : t1 = true ∧ t2 = 0 ∧ t3 = true ∧ t4 = 0 ∧ t5 = true ∧ t6 = true
  case neg => rw [if_neg hd] at g16; cases g16
  rw [if_pos hd] at g16
  clear h g1 g2 g3 g4 g5 g6 g7 g8 g9 g10 g11 g12 g13 g14 g15
  obtain ⟨e3, e4, e5, e6⟩ := hc
  obtain ⟨f1, f2, f3, f4, f5, f6⟩ := hd
  subst e3 e4 e5 e6 f1 f2 f3 f4 f5 f6
  obtain rfl := Option.some.inj g16
  have A1_ := Aside0.mk h1
  have A2_ := Aside0.mk h2
  have A3_ := Aside0.mk h3
  have A4_ := Aside0.mk h4
  have A5_ := Aside0.mk h5
  have A6_ := Aside0.mk h6
  have A7_ := Aside0.mk h7
  have A8_ := Aside0.mk h8
  have A9_ := Aside0.mk h9
  have A10_ := Aside0.mk h10
  have A11_ := Aside0.mk h11
  have A12_ := Aside0.mk h12
  have A13_ := Aside0.mk h13
  have A14_ := Aside0.mk h14
  have A15_ := Aside0.mk h15
  have A16_ := Aside0.mk h16
  clear g16 h1 h2 h3 h4 h5 h6 h7 h8 h9 h10 h11 h12 h13 h14 h15 h16 hr0_1 hc0_1 hr1 hc1
  go_enter Tryd.func7, Tryd.ntmps7
  go_wp2_with (first
    | ((with_reducible refine gate_dst (N := 2) rfl ?_); (try (refine gate_guard (by rfl) ?_; dsimp only)); refine box_event ?hg (N := 2) ?hd (cs := #[.int .i64 a0_0, .slice A0_1 l0_1.length c0_1]) (t := 24) ?hr ?_; (case hd => rfl); (case hg => rfl); (case hr => first | (go_simp; done) | (go_simp; rfl)); intro gb hg w1 hbox hb; go_loud (have HXR1 := Aside0.mk hbox; have HB1 := Aside0.mk hb; clear hb hg hbox; have hr0 := (blk_cell HXR1.out 0).trans rfl; have hr1 := (blk_cell HXR1.out 1).trans rfl))
    | (go_at_call 11; go_loud (refine (undercroftlaw13_Of.calls k a0_0 A0_1 c0_1 l0_1 x1 x2 _ (Kd.C_below HR0.out HB1.out) HC0.out A1_.out).mono ?_; rintro e w2 ⟨v2, rfl, ho, hb⟩; obtain ⟨D2, c2, rfl, hl2, hC2⟩ := Kd.S_reads ho; have HL2 := Aside0.mk hl2; have HO2 := Aside0.mk hC2; have HB2 := Aside0.mk (below_step HB1.out hb); have HXR2 := Aside0.mk ((hb.block _ (blk_lt HXR1.out)).trans HXR1.out); clear hl2 hC2 ho hb hr0 hr1))
    | (go_at_call 17; go_loud (refine (undercroftplain_CopyBytes.calls A1 c1 l1 o _ (Kd.C_below HR1.out HB2.out) HC1.out A2_.out).mono ?_; rintro e w3 ⟨v3, rfl, ho, hb⟩; obtain ⟨D3, c3, rfl, hl3, hC3⟩ := Kd.R_reads ho; have HL3 := Aside0.mk hl3; have HI3 := Aside0.mk hC3; have HB3 := Aside0.mk (below_step HB2.out hb); have HXR3 := Aside0.mk ((hb.block _ (blk_lt HXR2.out)).trans HXR2.out); have HO3 := Aside0.mk (Kd.C_below HO2.out hb); clear hl3 hC3 ho hb))
    | ((with_reducible refine gate_dst (N := 5) rfl ?_); (try (refine gate_guard (by rfl) ?_; dsimp only)); refine box_event ?hg (N := 5) ?hd (cs := #[.int .i64 0, .slice none 0 0]) (t := 32) ?hr ?_; (case hd => rfl); (case hg => rfl); (case hr => first | (go_simp; done) | (go_simp; rfl)); intro gx hg w4 hbox hb; go_loud (have HGN := Aside0.mk hg; have HBN := Aside0.mk hb; have HXN := Aside0.mk hbox; clear hb hg hbox; have hz0 : w4.cell? ⟨gx, 0, none⟩ = some (.int .i64 0) := (blk_cell HXN.out 0).trans rfl; have hz1 : w4.cell? ⟨gx, 1, none⟩ = some (.slice none 0 0) := (blk_cell HXN.out 1).trans rfl; have hzf0 := blk_frozen HXN.out 0; have hzf1 := blk_frozen HXN.out 1))
    | ((with_reducible refine gate_store (t := 32) (p := 5) rfl ?_); refine store_event (t := 32) (p := 5) (v := ?vo_w5) (w1 := ((w4.setCell ⟨gx, 0, none⟩ (.int .i64 x1)).setCell ⟨gx, 1, none⟩ (.slice D2 x2.length c2))) ?hg ?ho ?hn ?hr ?_; (case ho => rfl); (case hg => rfl); (case hn => rfl); (case hr => first | (go_simp; done) | (go_simp; rfl)); intro w5 hw; go_loud (have hb := (show Below _ _ w5 from (by rw [hw]; exact (HBN.out.setCell (p := ⟨gx, 0, none⟩) (Nat.le_of_eq HGN.out.symm) _).setCell (p := ⟨gx, 1, none⟩) (Nat.le_of_eq HGN.out.symm) _)); have HXX4 : Aside0 (w5.heap[gx]? = some (.cells #[.int .i64 x1, .slice D2 x2.length c2] 32 (0, 0))) := ⟨by rw [hw]; exact blk_put (blk_put HXN.out 0 _ rfl) 1 _ rfl⟩; have HB4 := Aside0.mk (below_step HB3.out hb); have HXR4 := Aside0.mk ((hb.block _ (blk_lt HXR3.out)).trans HXR3.out); have HO4 := Aside0.mk (Kd.C_below HO3.out hb); have HI4 := Aside0.mk (Kd.C_below HI3.out hb); clear hb hw hz0 hz1 hzf0 hzf1 HGN HBN HXN; have hx0 := (blk_cell HXX4.out 0).trans rfl; have hx1 := (blk_cell HXX4.out 1).trans rfl))
    | (go_at_call 10; go_loud (refine (segment_Seal.calls k x1 D2 c2 x2 p1 p2 _ HO4.out HL2.out A3_.out).mono ?_; rintro e w6 ⟨v6, rfl, ho, hb⟩; obtain ⟨D6, c6, rfl, hl6, hC6⟩ := Kd.R_reads ho; have HL6 := Aside0.mk hl6; have HP5 := Aside0.mk hC6; have HB5 := Aside0.mk (below_step HB4.out hb); have HXR5 := Aside0.mk ((hb.block _ (blk_lt HXR4.out)).trans HXR4.out); have HO5 := Aside0.mk (Kd.C_below HO4.out hb); have HI5 := Aside0.mk (Kd.C_below HI4.out hb); have HXX5 := Aside0.mk ((hb.block _ (blk_lt HXX4.out)).trans HXX4.out); clear hl6 hC6 ho hb hx0 hx1; have hr0 := (blk_cell HXR5.out 0).trans rfl; have hr1 := (blk_cell HXR5.out 1).trans rfl))
    | (go_at_call 18; go_loud (refine (undercroftref13_Seal.calls k a0_0 A0_1 c0_1 l0_1 q1 p2 _ (Kd.C_below HR0.out HB5.out) HC0.out A4_.out).mono ?_; rintro e w7 ⟨v7, rfl, ho, hb⟩; obtain ⟨D7, c7, rfl, hl7, hC7⟩ := Kd.R_reads ho; have HL7 := Aside0.mk hl7; have HQ6 := Aside0.mk hC7; have HB6 := Aside0.mk (below_step HB5.out hb); have HXR6 := Aside0.mk ((hb.block _ (blk_lt HXR5.out)).trans HXR5.out); have HO6 := Aside0.mk (Kd.C_below HO5.out hb); have HI6 := Aside0.mk (Kd.C_below HI5.out hb); have HXX6 := Aside0.mk ((hb.block _ (blk_lt HXX5.out)).trans HXX5.out); have HP6 := Aside0.mk (Kd.C_below HP5.out hb); clear hl7 hC7 ho hb hr0 hr1))
    | (go_at_call 13; go_loud (refine (segment_Open.calls D3 c3 o u1 u2 u3 _ HI6.out HL3.out A5_.out).mono ?_; rintro e w8 ⟨v8, rfl, ho, hb⟩; obtain ⟨D8, c8, rfl, hl8, hC8⟩ := Kd.S_reads ho; have HL8 := Aside0.mk hl8; have HU7 := Aside0.mk hC8; have HB7 := Aside0.mk (below_step HB6.out hb); have HXR7 := Aside0.mk ((hb.block _ (blk_lt HXR6.out)).trans HXR6.out); have HO7 := Aside0.mk (Kd.C_below HO6.out hb); have HI7 := Aside0.mk (Kd.C_below HI6.out hb); have HXX7 := Aside0.mk ((hb.block _ (blk_lt HXX6.out)).trans HXX6.out); have HP7 := Aside0.mk (Kd.C_below HP6.out hb); have HQ7 := Aside0.mk (Kd.C_below HQ6.out hb); clear hl8 hC8 ho hb))
    | ((with_reducible refine gate_dst (N := 11) rfl ?_); (try (refine gate_guard (by rfl) ?_; dsimp only)); refine box_event ?hg (N := 11) ?hd (cs := #[.int .i64 0, .slice none 0 0]) (t := 32) ?hr ?_; (case hd => rfl); (case hg => rfl); (case hr => first | (go_simp; done) | (go_simp; rfl)); intro gu hg w9 hbox hb; go_loud (have HGN := Aside0.mk hg; have HBN := Aside0.mk hb; have HXN := Aside0.mk hbox; clear hb hg hbox; have hz0 : w9.cell? ⟨gu, 0, none⟩ = some (.int .i64 0) := (blk_cell HXN.out 0).trans rfl; have hz1 : w9.cell? ⟨gu, 1, none⟩ = some (.slice none 0 0) := (blk_cell HXN.out 1).trans rfl; have hzf0 := blk_frozen HXN.out 0; have hzf1 := blk_frozen HXN.out 1))
    | ((with_reducible refine gate_store (t := 32) (p := 11) rfl ?_); refine store_event (t := 32) (p := 11) (v := ?vo_w10) (w1 := ((w9.setCell ⟨gu, 0, none⟩ (.int .i64 u1)).setCell ⟨gu, 1, none⟩ (.slice D8 u2.length c8))) ?hg ?ho ?hn ?hr ?_; (case ho => rfl); (case hg => rfl); (case hn => rfl); (case hr => first | (go_simp; done) | (go_simp; rfl)); intro w10 hw; go_loud (have hb := (show Below _ _ w10 from (by rw [hw]; exact (HBN.out.setCell (p := ⟨gu, 0, none⟩) (Nat.le_of_eq HGN.out.symm) _).setCell (p := ⟨gu, 1, none⟩) (Nat.le_of_eq HGN.out.symm) _)); have HXU8 : Aside0 (w10.heap[gu]? = some (.cells #[.int .i64 u1, .slice D8 u2.length c8] 32 (0, 0))) := ⟨by rw [hw]; exact blk_put (blk_put HXN.out 0 _ rfl) 1 _ rfl⟩; have HB8 := Aside0.mk (below_step HB7.out hb); have HXR8 := Aside0.mk ((hb.block _ (blk_lt HXR7.out)).trans HXR7.out); have HO8 := Aside0.mk (Kd.C_below HO7.out hb); have HI8 := Aside0.mk (Kd.C_below HI7.out hb); have HXX8 := Aside0.mk ((hb.block _ (blk_lt HXX7.out)).trans HXX7.out); have HP8 := Aside0.mk (Kd.C_below HP7.out hb); have HQ8 := Aside0.mk (Kd.C_below HQ7.out hb); have HU8 := Aside0.mk (Kd.C_below HU7.out hb); clear hb hw hz0 hz1 hzf0 hzf1 HGN HBN HXN))
    | (go_at_call 19; go_loud (refine (undercroftref13_Open.calls k A1 c1 l1 v1 v2 u3 _ (Kd.C_below HR1.out HB8.out) HC1.out A6_.out).mono ?_; rintro e w11 ⟨v11, rfl, ho, hb⟩; obtain ⟨D11, c11, rfl, hl11, hC11⟩ := Kd.S_reads ho; have HL11 := Aside0.mk hl11; have HV9 := Aside0.mk hC11; have HB9 := Aside0.mk (below_step HB8.out hb); have HXR9 := Aside0.mk ((hb.block _ (blk_lt HXR8.out)).trans HXR8.out); have HO9 := Aside0.mk (Kd.C_below HO8.out hb); have HI9 := Aside0.mk (Kd.C_below HI8.out hb); have HXX9 := Aside0.mk ((hb.block _ (blk_lt HXX8.out)).trans HXX8.out); have HP9 := Aside0.mk (Kd.C_below HP8.out hb); have HQ9 := Aside0.mk (Kd.C_below HQ8.out hb); have HU9 := Aside0.mk (Kd.C_below HU8.out hb); have HXU9 := Aside0.mk ((hb.block _ (blk_lt HXU8.out)).trans HXU8.out); clear hl11 hC11 ho hb))
    | ((with_reducible refine gate_dst (N := 13) rfl ?_); (try (refine gate_guard (by rfl) ?_; dsimp only)); refine box_event ?hg (N := 13) ?hd (cs := #[.int .i64 0, .slice none 0 0]) (t := 24) ?hr ?_; (case hd => rfl); (case hg => rfl); (case hr => first | (go_simp; done) | (go_simp; rfl)); intro gv hg w12 hbox hb; go_loud (have HGN := Aside0.mk hg; have HBN := Aside0.mk hb; have HXN := Aside0.mk hbox; clear hb hg hbox; have hz0 : w12.cell? ⟨gv, 0, none⟩ = some (.int .i64 0) := (blk_cell HXN.out 0).trans rfl; have hz1 : w12.cell? ⟨gv, 1, none⟩ = some (.slice none 0 0) := (blk_cell HXN.out 1).trans rfl; have hzf0 := blk_frozen HXN.out 0; have hzf1 := blk_frozen HXN.out 1))
    | ((with_reducible refine gate_store (t := 24) (p := 13) rfl ?_); refine store_event (t := 24) (p := 13) (v := ?vo_w13) (w1 := ((w12.setCell ⟨gv, 0, none⟩ (.int .i64 v1)).setCell ⟨gv, 1, none⟩ (.slice D11 v2.length c11))) ?hg ?ho ?hn ?hr ?_; (case ho => rfl); (case hg => rfl); (case hn => rfl); (case hr => first | (go_simp; done) | (go_simp; rfl)); intro w13 hw; go_loud (have hb := (show Below _ _ w13 from (by rw [hw]; exact (HBN.out.setCell (p := ⟨gv, 0, none⟩) (Nat.le_of_eq HGN.out.symm) _).setCell (p := ⟨gv, 1, none⟩) (Nat.le_of_eq HGN.out.symm) _)); have HXV10 : Aside0 (w13.heap[gv]? = some (.cells #[.int .i64 v1, .slice D11 v2.length c11] 24 (0, 0))) := ⟨by rw [hw]; exact blk_put (blk_put HXN.out 0 _ rfl) 1 _ rfl⟩; have HB10 := Aside0.mk (below_step HB9.out hb); have HXR10 := Aside0.mk ((hb.block _ (blk_lt HXR9.out)).trans HXR9.out); have HO10 := Aside0.mk (Kd.C_below HO9.out hb); have HI10 := Aside0.mk (Kd.C_below HI9.out hb); have HXX10 := Aside0.mk ((hb.block _ (blk_lt HXX9.out)).trans HXX9.out); have HP10 := Aside0.mk (Kd.C_below HP9.out hb); have HQ10 := Aside0.mk (Kd.C_below HQ9.out hb); have HU10 := Aside0.mk (Kd.C_below HU9.out hb); have HXU10 := Aside0.mk ((hb.block _ (blk_lt HXU9.out)).trans HXU9.out); have HV10 := Aside0.mk (Kd.C_below HV9.out hb); clear hb hw hz0 hz1 hzf0 hzf1 HGN HBN HXN; have hx0 := (blk_cell HXX10.out 0).trans rfl; have hx1 := (blk_cell HXX10.out 1).trans rfl))
    | (go_at_call 20; go_loud (refine (segment_Owners.calls k x1 D2 c2 x2 m1 m2 _ HO10.out HL2.out A7_.out).mono ?_; rintro e w14 ⟨v14, rfl, ho, hb⟩; obtain ⟨D14, c14, rfl, hl14, hC14⟩ := Kd.R_reads ho; have HL14 := Aside0.mk hl14; have HM11 := Aside0.mk hC14; have HB11 := Aside0.mk (below_step HB10.out hb); have HXR11 := Aside0.mk ((hb.block _ (blk_lt HXR10.out)).trans HXR10.out); have HO11 := Aside0.mk (Kd.C_below HO10.out hb); have HI11 := Aside0.mk (Kd.C_below HI10.out hb); have HXX11 := Aside0.mk ((hb.block _ (blk_lt HXX10.out)).trans HXX10.out); have HP11 := Aside0.mk (Kd.C_below HP10.out hb); have HQ11 := Aside0.mk (Kd.C_below HQ10.out hb); have HU11 := Aside0.mk (Kd.C_below HU10.out hb); have HXU11 := Aside0.mk ((hb.block _ (blk_lt HXU10.out)).trans HXU10.out); have HV11 := Aside0.mk (Kd.C_below HV10.out hb); have HXV11 := Aside0.mk ((hb.block _ (blk_lt HXV10.out)).trans HXV10.out); clear hl14 hC14 ho hb hx0 hx1; have hr0 := (blk_cell HXR11.out 0).trans rfl; have hr1 := (blk_cell HXR11.out 1).trans rfl))
    | (go_at_call 21; go_loud (refine (undercroftref13_Owners.calls k a0_0 A0_1 c0_1 l0_1 d1 m2 _ (Kd.C_below HR0.out HB11.out) HC0.out A8_.out).mono ?_; rintro e w15 ⟨v15, rfl, ho, hb⟩; obtain ⟨D15, c15, rfl, hl15, hC15⟩ := Kd.R_reads ho; have HL15 := Aside0.mk hl15; have HD12 := Aside0.mk hC15; have HB12 := Aside0.mk (below_step HB11.out hb); have HXR12 := Aside0.mk ((hb.block _ (blk_lt HXR11.out)).trans HXR11.out); have HO12 := Aside0.mk (Kd.C_below HO11.out hb); have HI12 := Aside0.mk (Kd.C_below HI11.out hb); have HXX12 := Aside0.mk ((hb.block _ (blk_lt HXX11.out)).trans HXX11.out); have HP12 := Aside0.mk (Kd.C_below HP11.out hb); have HQ12 := Aside0.mk (Kd.C_below HQ11.out hb); have HU12 := Aside0.mk (Kd.C_below HU11.out hb); have HXU12 := Aside0.mk ((hb.block _ (blk_lt HXU11.out)).trans HXU11.out); have HV12 := Aside0.mk (Kd.C_below HV11.out hb); have HXV12 := Aside0.mk ((hb.block _ (blk_lt HXV11.out)).trans HXV11.out); have HM12 := Aside0.mk (Kd.C_below HM11.out hb); clear hl15 hC15 ho hb hr0 hr1)))
  have HRA := Aside0.mk (Kd.C_below HR0.out HB12.out)
  have HRB := Aside0.mk (Kd.C_below HR1.out HB12.out)
  have hS : ∀ W' : World, Below w15.heap.size w15 W' → (W'.cell? ⟨gu, 0, none⟩ = some (.int .i64 u1) ∧ W'.cell? ⟨gu, 1, none⟩ = some (.slice D8 u2.length c8) ∧ W'.cell? ⟨gv, 0, none⟩ = some (.int .i64 v1) ∧ W'.cell? ⟨gv, 1, none⟩ = some (.slice D11 v2.length c11) ∧ W'.cell? ⟨gx, 0, none⟩ = some (.int .i64 x1) ∧ W'.cell? ⟨gx, 1, none⟩ = some (.slice D2 x2.length c2) ∧ W'.cell? ⟨gb, 0, none⟩ = some (.int .i64 a0_0) ∧ W'.cell? ⟨gb, 1, none⟩ = some (.slice A0_1 l0_1.length c0_1)) := fun W' hb => by
    have k1 := (hb.block _ (blk_lt HXU12.out)).trans HXU12.out
    have k2 := (hb.block _ (blk_lt HXV12.out)).trans HXV12.out
    have k3 := (hb.block _ (blk_lt HXX12.out)).trans HXX12.out
    have k4 := (hb.block _ (blk_lt HXR12.out)).trans HXR12.out
    exact ⟨(blk_cell k1 0).trans rfl, (blk_cell k1 1).trans rfl, (blk_cell k2 0).trans rfl, (blk_cell k2 1).trans rfl, (blk_cell k3 0).trans rfl, (blk_cell k3 1).trans rfl, (blk_cell k4 0).trans rfl, (blk_cell k4 1).trans rfl⟩
  have HS := Aside0.mk hS
  clear hS
  have HBc := Aside0.mk (below_drew1 (Below.refl w15.heap.size w15))
  refine start_ (n := 55) (S := fun w' => w'.cell? ⟨gu, 0, none⟩ = some (.int .i64 u1) ∧ w'.cell? ⟨gu, 1, none⟩ = some (.slice D8 u2.length c8) ∧ w'.cell? ⟨gv, 0, none⟩ = some (.int .i64 v1) ∧ w'.cell? ⟨gv, 1, none⟩ = some (.slice D11 v2.length c11) ∧ w'.cell? ⟨gx, 0, none⟩ = some (.int .i64 x1) ∧ w'.cell? ⟨gx, 1, none⟩ = some (.slice D2 x2.length c2) ∧ w'.cell? ⟨gb, 0, none⟩ = some (.int .i64 a0_0) ∧ w'.cell? ⟨gb, 1, none⟩ = some (.slice A0_1 l0_1.length c0_1)) (ds := []) #[false, false, false, false, false, false, false, false, false, false, false, false, false, false, false, false, false, false, false, false, false, false, false, false, false, false, false, false, false, false, false, false, false, false, false, false, false, false, false, false, false, false, false, false, false, false, false, false, false, false, false, false, false, false, false] (by kernel_rfl) rfl rfl (HS.out _ HBc.out) (fun hHeld => ?_); refine with_tabW st_tab8 st_bits8 (fun HT_ HW_ => ?_)
  refine pure_ (i := 0) (N := some 53) (v := ?_) (a' := ?_) #[true, false, false, false, false, false, false, false, false, false, false, false, false, false, false, false, false, false, false, false, false, false, false, false, false, false, false, false, false, false, false, false, false, false, false, false, false, false, false, false, false, false, false, false, false, false, false, false, false, false, false, false, false, false, false] rfl rfl (any_of HT_.out (by kernel_rfl)) (fun _ _ _ h => h) (Or.inl ⟨by rfl, ?_⟩) ?_ ?_
  rotate_left
  · intro w'
    go_simp
    with_reducible rfl
  rotate_left
  · simp only [Act.put, List.setIfInBounds_toArray, List.set_cons_zero, List.set_cons_succ, i64_w, i32_w]
    rfl
  refine pure_ (i := 1) (N := some 54) (v := ?_) (a' := ?_) #[true, true, false, false, false, false, false, false, false, false, false, false, false, false, false, false, false, false, false, false, false, false, false, false, false, false, false, false, false, false, false, false, false, false, false, false, false, false, false, false, false, false, false, false, false, false, false, false, false, false, false, false, false, false, false] rfl rfl (any_of HT_.out (by kernel_rfl)) (fun _ _ _ h => h) (Or.inl ⟨by rfl, ?_⟩) ?_ ?_
  rotate_left
  · intro w'
    go_simp
    with_reducible rfl
  rotate_left
  · simp only [Act.put, List.setIfInBounds_toArray, List.set_cons_zero, List.set_cons_succ, i64_w, i32_w]
    rfl
  refine one_ (i := 2) (N := some 55) #[true, true, true, false, false, false, false, false, false, false, false, false, false, false, false, false, false, false, false, false, false, false, false, false, false, false, false, false, false, false, false, false, false, false, false, false, false, false, false, false, false, false, false, false, false, false, false, false, false, false, false, false, false, false, false] rfl rfl (one_of HT_.out (by kernel_rfl)) (by decide) (fun K hK => ?_)
  refine goes_ Tryd.func15 (by kernel_rfl) rfl #[.slice D6 p1.length c6, .slice D7 q1.length c7] (by rfl) rfl rfl (by (try simp only [List.map_toArray, List.map_cons, List.map_nil]); first | done | rfl) ?_
  refine (undercroftplain_SameBytes.calls k D6 c6 p1 D7 c7 q1 true _ (Kd.C_below HP12.out HBc.out) HL6.out (Kd.C_below HQ12.out HBc.out) HL7.out A11_.out).mono ?_
  rintro e_ wz1 ⟨rfl, hd_⟩
  obtain ⟨n1_, rfl⟩ := hd_.out
  refine ⟨_, rfl, ?_⟩
  have n0_ := Aside0.mk (pw_below_drewN HBc.out n1_)
  clear HBc
  have HBc := n0_
  clear n0_
  refine hK.out _ _ (HS.out _ HBc.out) (fun hHeld => ?_)
  clear hK K
  refine norm_ (a' := ?_) ?_ ?_
  rotate_left
  · show Act.put _ (some 55) _ = _
    simp only [Act.put, List.setIfInBounds_toArray, List.set_cons_zero, List.set_cons_succ, i64_w, i32_w]
    rfl
  refine pure_ (i := 3) (N := some 56) (v := ?_) (a' := ?_) #[true, true, true, true, false, false, false, false, false, false, false, false, false, false, false, false, false, false, false, false, false, false, false, false, false, false, false, false, false, false, false, false, false, false, false, false, false, false, false, false, false, false, false, false, false, false, false, false, false, false, false, false, false, false, false] rfl rfl (any_of HT_.out (by kernel_rfl)) (fun _ _ _ h => h) (Or.inl ⟨by rfl, ?_⟩) ?_ ?_
  rotate_left
  · intro w'
    go_simp
    with_reducible rfl
  rotate_left
  · simp only [Act.put, List.setIfInBounds_toArray, List.set_cons_zero, List.set_cons_succ, i64_w, i32_w]
    rfl
  refine pure_ (i := 4) (N := some 57) (v := ?_) (a' := ?_) #[true, true, true, true, true, false, false, false, false, false, false, false, false, false, false, false, false, false, false, false, false, false, false, false, false, false, false, false, false, false, false, false, false, false, false, false, false, false, false, false, false, false, false, false, false, false, false, false, false, false, false, false, false, false, false] rfl rfl (any_of HT_.out (by kernel_rfl)) (fun _ _ _ h => h) (Or.inl ⟨by rfl, ?_⟩) ?_ ?_
  rotate_left
  · intro w'
    go_simp
    with_reducible rfl
  rotate_left
  · simp only [Act.put, List.setIfInBounds_toArray, List.set_cons_zero, List.set_cons_succ, i64_w, i32_w]
    rfl
  refine pure_ (i := 6) (N := some 59) (v := ?_) (a' := ?_) #[true, true, true, true, true, false, true, false, false, false, false, false, false, false, false, false, false, false, false, false, false, false, false, false, false, false, false, false, false, false, false, false, false, false, false, false, false, false, false, false, false, false, false, false, false, false, false, false, false, false, false, false, false, false, false] rfl rfl (any_of HT_.out (by kernel_rfl)) (fun _ _ _ h => h) (Or.inl ⟨by rfl, ?_⟩) ?_ ?_
  rotate_left
  · intro w'
    go_simp
    with_reducible rfl
  rotate_left
  · simp only [Act.put, List.setIfInBounds_toArray, List.set_cons_zero, List.set_cons_succ, i64_w, i32_w]
    rfl
  refine one_ (i := 5) (N := some 58) #[true, true, true, true, true, true, true, false, false, false, false, false, false, false, false, false, false, false, false, false, false, false, false, false, false, false, false, false, false, false, false, false, false, false, false, false, false, false, false, false, false, false, false, false, false, false, false, false, false, false, false, false, false, false, false] rfl rfl (one_of HT_.out (by kernel_rfl)) (by decide) (fun K hK => ?_)
  refine goes_ Tryd.func12 (by kernel_rfl) rfl #[.int .i64 p2] (by rfl) rfl rfl (by (try simp only [List.map_toArray, List.map_cons, List.map_nil]); first | done | rfl) ?_
  refine (undercroftlaw13_num.calls p2 p2 _ rfl).mono ?_
  rintro e_ wz2 ⟨rfl, hd_⟩
  obtain ⟨n2_, rfl⟩ := hd_.out
  refine ⟨_, rfl, ?_⟩
  have n0_ := Aside0.mk (pw_below_drewN HBc.out n2_)
  clear HBc
  have HBc := n0_
  clear n0_
  refine hK.out _ _ (HS.out _ HBc.out) (fun hHeld => ?_)
  clear hK K
  refine norm_ (a' := ?_) ?_ ?_
  rotate_left
  · show Act.put _ (some 58) _ = _
    simp only [Act.put, List.setIfInBounds_toArray, List.set_cons_zero, List.set_cons_succ, i64_w, i32_w]
    rfl
  refine pure_ (i := 7) (N := some 60) (v := ?_) (a' := ?_) #[true, true, true, true, true, true, true, true, false, false, false, false, false, false, false, false, false, false, false, false, false, false, false, false, false, false, false, false, false, false, false, false, false, false, false, false, false, false, false, false, false, false, false, false, false, false, false, false, false, false, false, false, false, false, false] rfl rfl (any_of HT_.out (by kernel_rfl)) (fun _ _ _ h => h) (Or.inl ⟨by rfl, ?_⟩) ?_ ?_
  rotate_left
  · intro w'
    go_simp
    with_reducible rfl
  rotate_left
  · simp only [Act.put, List.setIfInBounds_toArray, List.set_cons_zero, List.set_cons_succ, i64_w, i32_w]
    rfl
  refine pure_ (i := 8) (N := some 61) (v := ?_) (a' := ?_) #[true, true, true, true, true, true, true, true, true, false, false, false, false, false, false, false, false, false, false, false, false, false, false, false, false, false, false, false, false, false, false, false, false, false, false, false, false, false, false, false, false, false, false, false, false, false, false, false, false, false, false, false, false, false, false] rfl rfl (any_of HT_.out (by kernel_rfl)) (fun _ _ _ h => h) (Or.inl ⟨by rfl, ?_⟩) ?_ ?_
  rotate_left
  · intro w'
    go_simp
    with_reducible rfl
  rotate_left
  · simp only [Act.put, List.setIfInBounds_toArray, List.set_cons_zero, List.set_cons_succ, i64_w, i32_w]
    rfl
  refine pure_ (i := 9) (N := some 62) (v := ?_) (a' := ?_) #[true, true, true, true, true, true, true, true, true, true, false, false, false, false, false, false, false, false, false, false, false, false, false, false, false, false, false, false, false, false, false, false, false, false, false, false, false, false, false, false, false, false, false, false, false, false, false, false, false, false, false, false, false, false, false] rfl rfl (any_of HT_.out (by kernel_rfl)) (fun _ _ _ h => h) (Or.inl ⟨by rfl, ?_⟩) ?_ ?_
  rotate_left
  · intro w'
    go_simp
    with_reducible rfl
  rotate_left
  · simp only [Act.put, List.setIfInBounds_toArray, List.set_cons_zero, List.set_cons_succ, i64_w, i32_w]
    rfl
  refine take_ (i := 10) (N := some 63) (v := ?_) (a' := ?_) #[true, true, true, true, true, true, true, true, true, true, true, false, false, false, false, false, false, false, false, false, false, false, false, false, false, false, false, false, false, false, false, false, false, false, false, false, false, false, false, false, false, false, false, false, false, false, false, false, false, false, false, false, false, false, false] rfl rfl (take_ofW HT_.out HW_.out (by kernel_rfl)) (fun _ _ _ h => h) (Or.inl ⟨by rfl, ?_⟩) hHeld ?_ ?_
  rotate_left
  · rintro w' ⟨s0, s1, s2, s3, s4, s5, s6, s7⟩
    go_simp
    with_reducible rfl
  rotate_left
  · simp only [Act.put, List.setIfInBounds_toArray, List.set_cons_zero, List.set_cons_succ, i64_w, i32_w]
    rfl
  refine take_ (i := 11) (N := some 64) (v := ?_) (a' := ?_) #[true, true, true, true, true, true, true, true, true, true, true, true, false, false, false, false, false, false, false, false, false, false, false, false, false, false, false, false, false, false, false, false, false, false, false, false, false, false, false, false, false, false, false, false, false, false, false, false, false, false, false, false, false, false, false] rfl rfl (take_ofW HT_.out HW_.out (by kernel_rfl)) (fun _ _ _ h => h) (Or.inl ⟨by rfl, ?_⟩) hHeld ?_ ?_
  rotate_left
  · rintro w' ⟨s0, s1, s2, s3, s4, s5, s6, s7⟩
    go_simp
    with_reducible rfl
  rotate_left
  · simp only [Act.put, List.setIfInBounds_toArray, List.set_cons_zero, List.set_cons_succ, i64_w, i32_w]
    rfl
  refine one_ (i := 12) (N := some 65) #[true, true, true, true, true, true, true, true, true, true, true, true, true, false, false, false, false, false, false, false, false, false, false, false, false, false, false, false, false, false, false, false, false, false, false, false, false, false, false, false, false, false, false, false, false, false, false, false, false, false, false, false, false, false, false] rfl rfl (one_of HT_.out (by kernel_rfl)) (by decide) (fun K hK => ?_)
  refine goes_ Tryd.func14 (by kernel_rfl) rfl #[.agg #[.int .i64 u1, .slice D8 u2.length c8], .agg #[.int .i64 v1, .slice D11 v2.length c11]] (by rfl) rfl rfl (by (try simp only [List.map_toArray, List.map_cons, List.map_nil]); first | done | rfl) ?_
  refine (undercroftlaw13_Alike.calls k u1 D8 c8 u2 v1 D11 c11 v2 0 _ (Kd.C_below HU12.out HBc.out) HL8.out (Kd.C_below HV12.out HBc.out) HL11.out A12_.out).mono ?_
  rintro e_ wz3 ⟨rfl, hb⟩
  refine ⟨_, rfl, ?_⟩
  have n0_ := Aside0.mk (below_step HBc.out hb)
  clear hb
  clear HBc
  have HBc := n0_
  clear n0_
  refine hK.out _ _ (HS.out _ HBc.out) (fun hHeld => ?_)
  clear hK K
  refine norm_ (a' := ?_) ?_ ?_
  rotate_left
  · show Act.put _ (some 65) _ = _
    simp only [Act.put, List.setIfInBounds_toArray, List.set_cons_zero, List.set_cons_succ, i64_w, i32_w]
    rfl
  refine pure_ (i := 13) (N := some 66) (v := ?_) (a' := ?_) #[true, true, true, true, true, true, true, true, true, true, true, true, true, true, false, false, false, false, false, false, false, false, false, false, false, false, false, false, false, false, false, false, false, false, false, false, false, false, false, false, false, false, false, false, false, false, false, false, false, false, false, false, false, false, false] rfl rfl (any_of HT_.out (by kernel_rfl)) (fun _ _ _ h => h) (Or.inl ⟨by rfl, ?_⟩) ?_ ?_
  rotate_left
  · intro w'
    go_simp
    with_reducible rfl
  rotate_left
  · simp only [Act.put, List.setIfInBounds_toArray, List.set_cons_zero, List.set_cons_succ, i64_w, i32_w]
    rfl
  refine pure_ (i := 14) (N := some 67) (v := ?_) (a' := ?_) #[true, true, true, true, true, true, true, true, true, true, true, true, true, true, true, false, false, false, false, false, false, false, false, false, false, false, false, false, false, false, false, false, false, false, false, false, false, false, false, false, false, false, false, false, false, false, false, false, false, false, false, false, false, false, false] rfl rfl (any_of HT_.out (by kernel_rfl)) (fun _ _ _ h => h) (Or.inl ⟨by rfl, ?_⟩) ?_ ?_
  rotate_left
  · intro w'
    go_simp
    with_reducible rfl
  rotate_left
  · simp only [Act.put, List.setIfInBounds_toArray, List.set_cons_zero, List.set_cons_succ, i64_w, i32_w]
    rfl
  refine pure_ (i := 15) (N := some 68) (v := ?_) (a' := ?_) #[true, true, true, true, true, true, true, true, true, true, true, true, true, true, true, true, false, false, false, false, false, false, false, false, false, false, false, false, false, false, false, false, false, false, false, false, false, false, false, false, false, false, false, false, false, false, false, false, false, false, false, false, false, false, false] rfl rfl (any_of HT_.out (by kernel_rfl)) (fun _ _ _ h => h) (Or.inl ⟨by rfl, ?_⟩) ?_ ?_
  rotate_left
  · intro w'
    go_simp
    with_reducible rfl
  rotate_left
  · simp only [Act.put, List.setIfInBounds_toArray, List.set_cons_zero, List.set_cons_succ, i64_w, i32_w]
    rfl
  refine pure_ (i := 16) (N := some 69) (v := ?_) (a' := ?_) #[true, true, true, true, true, true, true, true, true, true, true, true, true, true, true, true, true, false, false, false, false, false, false, false, false, false, false, false, false, false, false, false, false, false, false, false, false, false, false, false, false, false, false, false, false, false, false, false, false, false, false, false, false, false, false] rfl rfl (any_of HT_.out (by kernel_rfl)) (fun _ _ _ h => h) (Or.inl ⟨by rfl, ?_⟩) ?_ ?_
  rotate_left
  · intro w'
    go_simp
    with_reducible rfl
  rotate_left
  · simp only [Act.put, List.setIfInBounds_toArray, List.set_cons_zero, List.set_cons_succ, i64_w, i32_w]
    rfl
  refine pure_ (i := 18) (N := some 71) (v := ?_) (a' := ?_) #[true, true, true, true, true, true, true, true, true, true, true, true, true, true, true, true, true, false, true, false, false, false, false, false, false, false, false, false, false, false, false, false, false, false, false, false, false, false, false, false, false, false, false, false, false, false, false, false, false, false, false, false, false, false, false] rfl rfl (any_of HT_.out (by kernel_rfl)) (fun _ _ _ h => h) (Or.inl ⟨by rfl, ?_⟩) ?_ ?_
  rotate_left
  · intro w'
    go_simp
    with_reducible rfl
  rotate_left
  · simp only [Act.put, List.setIfInBounds_toArray, List.set_cons_zero, List.set_cons_succ, i64_w, i32_w]
    rfl
  refine one_ (i := 17) (N := some 70) #[true, true, true, true, true, true, true, true, true, true, true, true, true, true, true, true, true, true, true, false, false, false, false, false, false, false, false, false, false, false, false, false, false, false, false, false, false, false, false, false, false, false, false, false, false, false, false, false, false, false, false, false, false, false, false] rfl rfl (one_of HT_.out (by kernel_rfl)) (by decide) (fun K hK => ?_)
  refine goes_ Tryd.func12 (by kernel_rfl) rfl #[.int .i64 u3] (by rfl) rfl rfl (by (try simp only [List.map_toArray, List.map_cons, List.map_nil]); first | done | rfl) ?_
  refine (undercroftlaw13_num.calls u3 u3 _ rfl).mono ?_
  rintro e_ wz4 ⟨rfl, hd_⟩
  obtain ⟨n4_, rfl⟩ := hd_.out
  refine ⟨_, rfl, ?_⟩
  have n0_ := Aside0.mk (pw_below_drewN HBc.out n4_)
  clear HBc
  have HBc := n0_
  clear n0_
  refine hK.out _ _ (HS.out _ HBc.out) (fun hHeld => ?_)
  clear hK K
  refine norm_ (a' := ?_) ?_ ?_
  rotate_left
  · show Act.put _ (some 70) _ = _
    simp only [Act.put, List.setIfInBounds_toArray, List.set_cons_zero, List.set_cons_succ, i64_w, i32_w]
    rfl
  refine pure_ (i := 19) (N := some 72) (v := ?_) (a' := ?_) #[true, true, true, true, true, true, true, true, true, true, true, true, true, true, true, true, true, true, true, true, false, false, false, false, false, false, false, false, false, false, false, false, false, false, false, false, false, false, false, false, false, false, false, false, false, false, false, false, false, false, false, false, false, false, false] rfl rfl (any_of HT_.out (by kernel_rfl)) (fun _ _ _ h => h) (Or.inl ⟨by rfl, ?_⟩) ?_ ?_
  rotate_left
  · intro w'
    go_simp
    with_reducible rfl
  rotate_left
  · simp only [Act.put, List.setIfInBounds_toArray, List.set_cons_zero, List.set_cons_succ, i64_w, i32_w]
    rfl
  refine pure_ (i := 20) (N := some 73) (v := ?_) (a' := ?_) #[true, true, true, true, true, true, true, true, true, true, true, true, true, true, true, true, true, true, true, true, true, false, false, false, false, false, false, false, false, false, false, false, false, false, false, false, false, false, false, false, false, false, false, false, false, false, false, false, false, false, false, false, false, false, false] rfl rfl (any_of HT_.out (by kernel_rfl)) (fun _ _ _ h => h) (Or.inl ⟨by rfl, ?_⟩) ?_ ?_
  rotate_left
  · intro w'
    go_simp
    with_reducible rfl
  rotate_left
  · simp only [Act.put, List.setIfInBounds_toArray, List.set_cons_zero, List.set_cons_succ, i64_w, i32_w]
    rfl
  refine pure_ (i := 21) (N := some 74) (v := ?_) (a' := ?_) #[true, true, true, true, true, true, true, true, true, true, true, true, true, true, true, true, true, true, true, true, true, true, false, false, false, false, false, false, false, false, false, false, false, false, false, false, false, false, false, false, false, false, false, false, false, false, false, false, false, false, false, false, false, false, false] rfl rfl (any_of HT_.out (by kernel_rfl)) (fun _ _ _ h => h) (Or.inl ⟨by rfl, ?_⟩) ?_ ?_
  rotate_left
  · intro w'
    go_simp
    with_reducible rfl
  rotate_left
  · simp only [Act.put, List.setIfInBounds_toArray, List.set_cons_zero, List.set_cons_succ, i64_w, i32_w]
    rfl
  refine pure_ (i := 22) (N := some 75) (v := ?_) (a' := ?_) #[true, true, true, true, true, true, true, true, true, true, true, true, true, true, true, true, true, true, true, true, true, true, true, false, false, false, false, false, false, false, false, false, false, false, false, false, false, false, false, false, false, false, false, false, false, false, false, false, false, false, false, false, false, false, false] rfl rfl (any_of HT_.out (by kernel_rfl)) (fun _ _ _ h => h) (Or.inl ⟨by rfl, ?_⟩) ?_ ?_
  rotate_left
  · intro w'
    go_simp
    with_reducible rfl
  rotate_left
  · simp only [Act.put, List.setIfInBounds_toArray, List.set_cons_zero, List.set_cons_succ, i64_w, i32_w]
    rfl
  refine pure_ (i := 23) (N := some 76) (v := ?_) (a' := ?_) #[true, true, true, true, true, true, true, true, true, true, true, true, true, true, true, true, true, true, true, true, true, true, true, true, false, false, false, false, false, false, false, false, false, false, false, false, false, false, false, false, false, false, false, false, false, false, false, false, false, false, false, false, false, false, false] rfl rfl (any_of HT_.out (by kernel_rfl)) (fun _ _ _ h => h) (Or.inl ⟨by rfl, ?_⟩) ?_ ?_
  rotate_left
  · intro w'
    go_simp
    with_reducible rfl
  rotate_left
  · simp only [Act.put, List.setIfInBounds_toArray, List.set_cons_zero, List.set_cons_succ, i64_w, i32_w]
    rfl
  refine one_ (i := 24) (N := some 77) #[true, true, true, true, true, true, true, true, true, true, true, true, true, true, true, true, true, true, true, true, true, true, true, true, true, false, false, false, false, false, false, false, false, false, false, false, false, false, false, false, false, false, false, false, false, false, false, false, false, false, false, false, false, false, false] rfl rfl (one_of HT_.out (by kernel_rfl)) (by decide) (fun K hK => ?_)
  refine goes_ Tryd.func22 (by kernel_rfl) rfl #[.slice D14 m1.length c14, .slice D15 d1.length c15] (by rfl) rfl rfl (by (try simp only [List.map_toArray, List.map_cons, List.map_nil]); first | done | rfl) ?_
  refine (undercroftplain_SameInts.calls k D14 c14 m1 D15 c15 d1 true _ (Kd.C_below HM12.out HBc.out) HL14.out (Kd.C_below HD12.out HBc.out) HL15.out A13_.out).mono ?_
  rintro e_ wz5 ⟨rfl, hd_⟩
  obtain ⟨n5_, rfl⟩ := hd_.out
  refine ⟨_, rfl, ?_⟩
  have n0_ := Aside0.mk (pw_below_drewN HBc.out n5_)
  clear HBc
  have HBc := n0_
  clear n0_
  refine hK.out _ _ (HS.out _ HBc.out) (fun hHeld => ?_)
  clear hK K
  refine norm_ (a' := ?_) ?_ ?_
  rotate_left
  · show Act.put _ (some 77) _ = _
    simp only [Act.put, List.setIfInBounds_toArray, List.set_cons_zero, List.set_cons_succ, i64_w, i32_w]
    rfl
  refine pure_ (i := 25) (N := some 78) (v := ?_) (a' := ?_) #[true, true, true, true, true, true, true, true, true, true, true, true, true, true, true, true, true, true, true, true, true, true, true, true, true, true, false, false, false, false, false, false, false, false, false, false, false, false, false, false, false, false, false, false, false, false, false, false, false, false, false, false, false, false, false] rfl rfl (any_of HT_.out (by kernel_rfl)) (fun _ _ _ h => h) (Or.inl ⟨by rfl, ?_⟩) ?_ ?_
  rotate_left
  · intro w'
    go_simp
    with_reducible rfl
  rotate_left
  · simp only [Act.put, List.setIfInBounds_toArray, List.set_cons_zero, List.set_cons_succ, i64_w, i32_w]
    rfl
  refine pure_ (i := 26) (N := some 79) (v := ?_) (a' := ?_) #[true, true, true, true, true, true, true, true, true, true, true, true, true, true, true, true, true, true, true, true, true, true, true, true, true, true, true, false, false, false, false, false, false, false, false, false, false, false, false, false, false, false, false, false, false, false, false, false, false, false, false, false, false, false, false] rfl rfl (any_of HT_.out (by kernel_rfl)) (fun _ _ _ h => h) (Or.inl ⟨by rfl, ?_⟩) ?_ ?_
  rotate_left
  · intro w'
    go_simp
    with_reducible rfl
  rotate_left
  · simp only [Act.put, List.setIfInBounds_toArray, List.set_cons_zero, List.set_cons_succ, i64_w, i32_w]
    rfl
  refine pure_ (i := 27) (N := some 80) (v := ?_) (a' := ?_) #[true, true, true, true, true, true, true, true, true, true, true, true, true, true, true, true, true, true, true, true, true, true, true, true, true, true, true, true, false, false, false, false, false, false, false, false, false, false, false, false, false, false, false, false, false, false, false, false, false, false, false, false, false, false, false] rfl rfl (any_of HT_.out (by kernel_rfl)) (fun _ _ _ h => h) (Or.inl ⟨by rfl, ?_⟩) ?_ ?_
  rotate_left
  · intro w'
    go_simp
    with_reducible rfl
  rotate_left
  · simp only [Act.put, List.setIfInBounds_toArray, List.set_cons_zero, List.set_cons_succ, i64_w, i32_w]
    rfl
  refine pure_ (i := 29) (N := some 82) (v := ?_) (a' := ?_) #[true, true, true, true, true, true, true, true, true, true, true, true, true, true, true, true, true, true, true, true, true, true, true, true, true, true, true, true, false, true, false, false, false, false, false, false, false, false, false, false, false, false, false, false, false, false, false, false, false, false, false, false, false, false, false] rfl rfl (any_of HT_.out (by kernel_rfl)) (fun _ _ _ h => h) (Or.inl ⟨by rfl, ?_⟩) ?_ ?_
  rotate_left
  · intro w'
    go_simp
    with_reducible rfl
  rotate_left
  · simp only [Act.put, List.setIfInBounds_toArray, List.set_cons_zero, List.set_cons_succ, i64_w, i32_w]
    rfl
  refine one_ (i := 28) (N := some 81) #[true, true, true, true, true, true, true, true, true, true, true, true, true, true, true, true, true, true, true, true, true, true, true, true, true, true, true, true, true, true, false, false, false, false, false, false, false, false, false, false, false, false, false, false, false, false, false, false, false, false, false, false, false, false, false] rfl rfl (one_of HT_.out (by kernel_rfl)) (by decide) (fun K hK => ?_)
  refine goes_ Tryd.func12 (by kernel_rfl) rfl #[.int .i64 m2] (by rfl) rfl rfl (by (try simp only [List.map_toArray, List.map_cons, List.map_nil]); first | done | rfl) ?_
  refine (undercroftlaw13_num.calls m2 m2 _ rfl).mono ?_
  rintro e_ wz6 ⟨rfl, hd_⟩
  obtain ⟨n6_, rfl⟩ := hd_.out
  refine ⟨_, rfl, ?_⟩
  have n0_ := Aside0.mk (pw_below_drewN HBc.out n6_)
  clear HBc
  have HBc := n0_
  clear n0_
  refine hK.out _ _ (HS.out _ HBc.out) (fun hHeld => ?_)
  clear hK K
  refine norm_ (a' := ?_) ?_ ?_
  rotate_left
  · show Act.put _ (some 81) _ = _
    simp only [Act.put, List.setIfInBounds_toArray, List.set_cons_zero, List.set_cons_succ, i64_w, i32_w]
    rfl
  refine pure_ (i := 30) (N := some 83) (v := ?_) (a' := ?_) #[true, true, true, true, true, true, true, true, true, true, true, true, true, true, true, true, true, true, true, true, true, true, true, true, true, true, true, true, true, true, true, false, false, false, false, false, false, false, false, false, false, false, false, false, false, false, false, false, false, false, false, false, false, false, false] rfl rfl (any_of HT_.out (by kernel_rfl)) (fun _ _ _ h => h) (Or.inl ⟨by rfl, ?_⟩) ?_ ?_
  rotate_left
  · intro w'
    go_simp
    with_reducible rfl
  rotate_left
  · simp only [Act.put, List.setIfInBounds_toArray, List.set_cons_zero, List.set_cons_succ, i64_w, i32_w]
    rfl
  refine pure_ (i := 31) (N := some 84) (v := ?_) (a' := ?_) #[true, true, true, true, true, true, true, true, true, true, true, true, true, true, true, true, true, true, true, true, true, true, true, true, true, true, true, true, true, true, true, true, false, false, false, false, false, false, false, false, false, false, false, false, false, false, false, false, false, false, false, false, false, false, false] rfl rfl (any_of HT_.out (by kernel_rfl)) (fun _ _ _ h => h) (Or.inl ⟨by rfl, ?_⟩) ?_ ?_
  rotate_left
  · intro w'
    go_simp
    with_reducible rfl
  rotate_left
  · simp only [Act.put, List.setIfInBounds_toArray, List.set_cons_zero, List.set_cons_succ, i64_w, i32_w]
    rfl
  refine pure_ (i := 32) (N := some 85) (v := ?_) (a' := ?_) #[true, true, true, true, true, true, true, true, true, true, true, true, true, true, true, true, true, true, true, true, true, true, true, true, true, true, true, true, true, true, true, true, true, false, false, false, false, false, false, false, false, false, false, false, false, false, false, false, false, false, false, false, false, false, false] rfl rfl (any_of HT_.out (by kernel_rfl)) (fun _ _ _ h => h) (Or.inl ⟨by rfl, ?_⟩) ?_ ?_
  rotate_left
  · intro w'
    go_simp
    with_reducible rfl
  rotate_left
  · simp only [Act.put, List.setIfInBounds_toArray, List.set_cons_zero, List.set_cons_succ, i64_w, i32_w]
    rfl
  refine take_ (i := 33) (N := some 86) (v := ?_) (a' := ?_) #[true, true, true, true, true, true, true, true, true, true, true, true, true, true, true, true, true, true, true, true, true, true, true, true, true, true, true, true, true, true, true, true, true, true, false, false, false, false, false, false, false, false, false, false, false, false, false, false, false, false, false, false, false, false, false] rfl rfl (take_ofW HT_.out HW_.out (by kernel_rfl)) (fun _ _ _ h => h) (Or.inl ⟨by rfl, ?_⟩) hHeld ?_ ?_
  rotate_left
  · rintro w' ⟨s0, s1, s2, s3, s4, s5, s6, s7⟩
    go_simp
    with_reducible rfl
  rotate_left
  · simp only [Act.put, List.setIfInBounds_toArray, List.set_cons_zero, List.set_cons_succ, i64_w, i32_w]
    rfl
  refine take_ (i := 36) (N := some 89) (v := ?_) (a' := ?_) #[true, true, true, true, true, true, true, true, true, true, true, true, true, true, true, true, true, true, true, true, true, true, true, true, true, true, true, true, true, true, true, true, true, true, false, false, true, false, false, false, false, false, false, false, false, false, false, false, false, false, false, false, false, false, false] rfl rfl (take_ofW HT_.out HW_.out (by kernel_rfl)) (fun _ _ _ h => h) (Or.inl ⟨by rfl, ?_⟩) hHeld ?_ ?_
  rotate_left
  · rintro w' ⟨s0, s1, s2, s3, s4, s5, s6, s7⟩
    go_simp
    with_reducible rfl
  rotate_left
  · simp only [Act.put, List.setIfInBounds_toArray, List.set_cons_zero, List.set_cons_succ, i64_w, i32_w]
    rfl
  refine one_ (i := 34) (N := some 87) #[true, true, true, true, true, true, true, true, true, true, true, true, true, true, true, true, true, true, true, true, true, true, true, true, true, true, true, true, true, true, true, true, true, true, true, false, true, false, false, false, false, false, false, false, false, false, false, false, false, false, false, false, false, false, false] rfl rfl (one_of HT_.out (by kernel_rfl)) (by decide) (fun K hK => ?_)
  refine goes_ Tryd.func23 (by kernel_rfl) rfl #[.agg #[.int .i64 x1, .slice D2 x2.length c2]] (by rfl) rfl rfl (by (try simp only [List.map_toArray, List.map_cons, List.map_nil]); first | done | rfl) ?_
  refine (segment_Check.calls x1 D2 c2 x2 e1 _ (Kd.C_below HO12.out HBc.out) HL2.out A9_.out).mono ?_
  rintro e_ wz7 ⟨rfl, hb⟩
  refine ⟨_, rfl, ?_⟩
  have n0_ := Aside0.mk (below_step HBc.out hb)
  clear hb
  clear HBc
  have HBc := n0_
  clear n0_
  refine hK.out _ _ (HS.out _ HBc.out) (fun hHeld => ?_)
  clear hK K
  refine norm_ (a' := ?_) ?_ ?_
  rotate_left
  · show Act.put _ (some 87) _ = _
    simp only [Act.put, List.setIfInBounds_toArray, List.set_cons_zero, List.set_cons_succ, i64_w, i32_w]
    rfl
  refine one_ (i := 35) (N := some 88) #[true, true, true, true, true, true, true, true, true, true, true, true, true, true, true, true, true, true, true, true, true, true, true, true, true, true, true, true, true, true, true, true, true, true, true, true, true, false, false, false, false, false, false, false, false, false, false, false, false, false, false, false, false, false, false] rfl rfl (one_of HT_.out (by kernel_rfl)) (by decide) (fun K hK => ?_)
  refine goes_ Tryd.func12 (by kernel_rfl) rfl #[.int .i64 e1] (by rfl) rfl rfl (by (try simp only [List.map_toArray, List.map_cons, List.map_nil]); first | done | rfl) ?_
  refine (undercroftlaw13_num.calls e1 e1 _ rfl).mono ?_
  rintro e_ wz8 ⟨rfl, hd_⟩
  obtain ⟨n8_, rfl⟩ := hd_.out
  refine ⟨_, rfl, ?_⟩
  have n0_ := Aside0.mk (pw_below_drewN HBc.out n8_)
  clear HBc
  have HBc := n0_
  clear n0_
  refine hK.out _ _ (HS.out _ HBc.out) (fun hHeld => ?_)
  clear hK K
  refine norm_ (a' := ?_) ?_ ?_
  rotate_left
  · show Act.put _ (some 88) _ = _
    simp only [Act.put, List.setIfInBounds_toArray, List.set_cons_zero, List.set_cons_succ, i64_w, i32_w]
    rfl
  refine one_ (i := 37) (N := some 90) #[true, true, true, true, true, true, true, true, true, true, true, true, true, true, true, true, true, true, true, true, true, true, true, true, true, true, true, true, true, true, true, true, true, true, true, true, true, true, false, false, false, false, false, false, false, false, false, false, false, false, false, false, false, false, false] rfl rfl (one_of HT_.out (by kernel_rfl)) (by decide) (fun K hK => ?_)
  refine goes_ Tryd.func24 (by kernel_rfl) rfl #[.agg #[.int .i64 a0_0, .slice A0_1 l0_1.length c0_1]] (by rfl) rfl rfl (by (try simp only [List.map_toArray, List.map_cons, List.map_nil]); first | done | rfl) ?_
  refine (undercroftref13_Check.calls k a0_0 A0_1 c0_1 l0_1 e1 _ (Kd.C_below HRA.out HBc.out) HC0.out A10_.out).mono ?_
  rintro e_ wz9 ⟨rfl, hb⟩
  refine ⟨_, rfl, ?_⟩
  have n0_ := Aside0.mk (below_step HBc.out hb)
  clear hb
  clear HBc
  have HBc := n0_
  clear n0_
  refine hK.out _ _ (HS.out _ HBc.out) (fun hHeld => ?_)
  clear hK K
  refine norm_ (a' := ?_) ?_ ?_
  rotate_left
  · show Act.put _ (some 90) _ = _
    simp only [Act.put, List.setIfInBounds_toArray, List.set_cons_zero, List.set_cons_succ, i64_w, i32_w]
    rfl
  refine pure_ (i := 38) (N := some 91) (v := ?_) (a' := ?_) #[true, true, true, true, true, true, true, true, true, true, true, true, true, true, true, true, true, true, true, true, true, true, true, true, true, true, true, true, true, true, true, true, true, true, true, true, true, true, true, false, false, false, false, false, false, false, false, false, false, false, false, false, false, false, false] rfl rfl (any_of HT_.out (by kernel_rfl)) (fun _ _ _ h => h) (Or.inl ⟨by rfl, ?_⟩) ?_ ?_
  rotate_left
  · intro w'
    go_simp
    with_reducible rfl
  rotate_left
  · simp only [Act.put, List.setIfInBounds_toArray, List.set_cons_zero, List.set_cons_succ, i64_w, i32_w]
    rfl
  refine pure_ (i := 39) (N := some 92) (v := ?_) (a' := ?_) #[true, true, true, true, true, true, true, true, true, true, true, true, true, true, true, true, true, true, true, true, true, true, true, true, true, true, true, true, true, true, true, true, true, true, true, true, true, true, true, true, false, false, false, false, false, false, false, false, false, false, false, false, false, false, false] rfl rfl (any_of HT_.out (by kernel_rfl)) (fun _ _ _ h => h) (Or.inl ⟨by rfl, ?_⟩) ?_ ?_
  rotate_left
  · intro w'
    go_simp
    with_reducible rfl
  rotate_left
  · simp only [Act.put, List.setIfInBounds_toArray, List.set_cons_zero, List.set_cons_succ, i64_w, i32_w]
    rfl
  refine pure_ (i := 40) (N := some 93) (v := ?_) (a' := ?_) #[true, true, true, true, true, true, true, true, true, true, true, true, true, true, true, true, true, true, true, true, true, true, true, true, true, true, true, true, true, true, true, true, true, true, true, true, true, true, true, true, true, false, false, false, false, false, false, false, false, false, false, false, false, false, false] rfl rfl (any_of HT_.out (by kernel_rfl)) (fun _ _ _ h => h) (Or.inl ⟨by rfl, ?_⟩) ?_ ?_
  rotate_left
  · intro w'
    go_simp
    with_reducible rfl
  rotate_left
  · simp only [Act.put, List.setIfInBounds_toArray, List.set_cons_zero, List.set_cons_succ, i64_w, i32_w]
    rfl
  refine take_ (i := 41) (N := some 94) (v := ?_) (a' := ?_) #[true, true, true, true, true, true, true, true, true, true, true, true, true, true, true, true, true, true, true, true, true, true, true, true, true, true, true, true, true, true, true, true, true, true, true, true, true, true, true, true, true, true, false, false, false, false, false, false, false, false, false, false, false, false, false] rfl rfl (take_ofW HT_.out HW_.out (by kernel_rfl)) (fun _ _ _ h => h) (Or.inl ⟨by rfl, ?_⟩) hHeld ?_ ?_
  rotate_left
  · rintro w' ⟨s0, s1, s2, s3, s4, s5, s6, s7⟩
    go_simp
    with_reducible rfl
  rotate_left
  · simp only [Act.put, List.setIfInBounds_toArray, List.set_cons_zero, List.set_cons_succ, i64_w, i32_w]
    rfl
  refine take_ (i := 42) (N := some 95) (v := ?_) (a' := ?_) #[true, true, true, true, true, true, true, true, true, true, true, true, true, true, true, true, true, true, true, true, true, true, true, true, true, true, true, true, true, true, true, true, true, true, true, true, true, true, true, true, true, true, true, false, false, false, false, false, false, false, false, false, false, false, false] rfl rfl (take_ofW HT_.out HW_.out (by kernel_rfl)) (fun _ _ _ h => h) (Or.inl ⟨by rfl, ?_⟩) hHeld ?_ ?_
  rotate_left
  · rintro w' ⟨s0, s1, s2, s3, s4, s5, s6, s7⟩
    go_simp
    with_reducible rfl
  rotate_left
  · simp only [Act.put, List.setIfInBounds_toArray, List.set_cons_zero, List.set_cons_succ, i64_w, i32_w]
    rfl
  refine one_ (i := 43) (N := some 96) #[true, true, true, true, true, true, true, true, true, true, true, true, true, true, true, true, true, true, true, true, true, true, true, true, true, true, true, true, true, true, true, true, true, true, true, true, true, true, true, true, true, true, true, true, false, false, false, false, false, false, false, false, false, false, false] rfl rfl (one_of HT_.out (by kernel_rfl)) (by decide) (fun K hK => ?_)
  refine goes_ Tryd.func14 (by kernel_rfl) rfl #[.agg #[.int .i64 x1, .slice D2 x2.length c2], .agg #[.int .i64 a0_0, .slice A0_1 l0_1.length c0_1]] (by rfl) rfl rfl (by (try simp only [List.map_toArray, List.map_cons, List.map_nil]); first | done | rfl) ?_
  refine (undercroftlaw13_Alike.calls k x1 D2 c2 x2 a0_0 A0_1 c0_1 l0_1 0 _ (Kd.C_below HO12.out HBc.out) HL2.out (Kd.C_below HRA.out HBc.out) HC0.out A14_.out).mono ?_
  rintro e_ wz10 ⟨rfl, hb⟩
  refine ⟨_, rfl, ?_⟩
  have n0_ := Aside0.mk (below_step HBc.out hb)
  clear hb
  clear HBc
  have HBc := n0_
  clear n0_
  refine hK.out _ _ (HS.out _ HBc.out) (fun hHeld => ?_)
  clear hK K
  refine norm_ (a' := ?_) ?_ ?_
  rotate_left
  · show Act.put _ (some 96) _ = _
    simp only [Act.put, List.setIfInBounds_toArray, List.set_cons_zero, List.set_cons_succ, i64_w, i32_w]
    rfl
  refine pure_ (i := 44) (N := some 97) (v := ?_) (a' := ?_) #[true, true, true, true, true, true, true, true, true, true, true, true, true, true, true, true, true, true, true, true, true, true, true, true, true, true, true, true, true, true, true, true, true, true, true, true, true, true, true, true, true, true, true, true, true, false, false, false, false, false, false, false, false, false, false] rfl rfl (any_of HT_.out (by kernel_rfl)) (fun _ _ _ h => h) (Or.inl ⟨by rfl, ?_⟩) ?_ ?_
  rotate_left
  · intro w'
    go_simp
    with_reducible rfl
  rotate_left
  · simp only [Act.put, List.setIfInBounds_toArray, List.set_cons_zero, List.set_cons_succ, i64_w, i32_w]
    rfl
  refine pure_ (i := 45) (N := some 98) (v := ?_) (a' := ?_) #[true, true, true, true, true, true, true, true, true, true, true, true, true, true, true, true, true, true, true, true, true, true, true, true, true, true, true, true, true, true, true, true, true, true, true, true, true, true, true, true, true, true, true, true, true, true, false, false, false, false, false, false, false, false, false] rfl rfl (any_of HT_.out (by kernel_rfl)) (fun _ _ _ h => h) (Or.inl ⟨by rfl, ?_⟩) ?_ ?_
  rotate_left
  · intro w'
    go_simp
    with_reducible rfl
  rotate_left
  · simp only [Act.put, List.setIfInBounds_toArray, List.set_cons_zero, List.set_cons_succ, i64_w, i32_w]
    rfl
  refine pure_ (i := 46) (N := some 99) (v := ?_) (a' := ?_) #[true, true, true, true, true, true, true, true, true, true, true, true, true, true, true, true, true, true, true, true, true, true, true, true, true, true, true, true, true, true, true, true, true, true, true, true, true, true, true, true, true, true, true, true, true, true, true, false, false, false, false, false, false, false, false] rfl rfl (any_of HT_.out (by kernel_rfl)) (fun _ _ _ h => h) (Or.inl ⟨by rfl, ?_⟩) ?_ ?_
  rotate_left
  · intro w'
    go_simp
    with_reducible rfl
  rotate_left
  · simp only [Act.put, List.setIfInBounds_toArray, List.set_cons_zero, List.set_cons_succ, i64_w, i32_w]
    rfl
  refine pure_ (i := 47) (N := some 100) (v := ?_) (a' := ?_) #[true, true, true, true, true, true, true, true, true, true, true, true, true, true, true, true, true, true, true, true, true, true, true, true, true, true, true, true, true, true, true, true, true, true, true, true, true, true, true, true, true, true, true, true, true, true, true, true, false, false, false, false, false, false, false] rfl rfl (any_of HT_.out (by kernel_rfl)) (fun _ _ _ h => h) (Or.inl ⟨by rfl, ?_⟩) ?_ ?_
  rotate_left
  · intro w'
    go_simp
    with_reducible rfl
  rotate_left
  · simp only [Act.put, List.setIfInBounds_toArray, List.set_cons_zero, List.set_cons_succ, i64_w, i32_w]
    rfl
  refine pure_ (i := 48) (N := some 101) (v := ?_) (a' := ?_) #[true, true, true, true, true, true, true, true, true, true, true, true, true, true, true, true, true, true, true, true, true, true, true, true, true, true, true, true, true, true, true, true, true, true, true, true, true, true, true, true, true, true, true, true, true, true, true, true, true, false, false, false, false, false, false] rfl rfl (any_of HT_.out (by kernel_rfl)) (fun _ _ _ h => h) (Or.inl ⟨by rfl, ?_⟩) ?_ ?_
  rotate_left
  · intro w'
    go_simp
    with_reducible rfl
  rotate_left
  · simp only [Act.put, List.setIfInBounds_toArray, List.set_cons_zero, List.set_cons_succ, i64_w, i32_w]
    rfl
  refine one_ (i := 49) (N := some 102) #[true, true, true, true, true, true, true, true, true, true, true, true, true, true, true, true, true, true, true, true, true, true, true, true, true, true, true, true, true, true, true, true, true, true, true, true, true, true, true, true, true, true, true, true, true, true, true, true, true, true, false, false, false, false, false] rfl rfl (one_of HT_.out (by kernel_rfl)) (by decide) (fun K hK => ?_)
  refine goes_ Tryd.func15 (by kernel_rfl) rfl #[.slice D3 o.length c3, .slice A1 l1.length c1] (by rfl) rfl rfl (by (try simp only [List.map_toArray, List.map_cons, List.map_nil]); first | done | rfl) ?_
  refine (undercroftplain_SameBytes.calls k D3 c3 o A1 c1 l1 true _ (Kd.C_below HI12.out HBc.out) HL3.out (Kd.C_below HRB.out HBc.out) HC1.out A15_.out).mono ?_
  rintro e_ wz11 ⟨rfl, hd_⟩
  obtain ⟨n11_, rfl⟩ := hd_.out
  refine ⟨_, rfl, ?_⟩
  have n0_ := Aside0.mk (pw_below_drewN HBc.out n11_)
  clear HBc
  have HBc := n0_
  clear n0_
  refine hK.out _ _ (HS.out _ HBc.out) (fun hHeld => ?_)
  clear hK K
  refine norm_ (a' := ?_) ?_ ?_
  rotate_left
  · show Act.put _ (some 102) _ = _
    simp only [Act.put, List.setIfInBounds_toArray, List.set_cons_zero, List.set_cons_succ, i64_w, i32_w]
    rfl
  refine pure_ (i := 50) (N := some 103) (v := ?_) (a' := ?_) #[true, true, true, true, true, true, true, true, true, true, true, true, true, true, true, true, true, true, true, true, true, true, true, true, true, true, true, true, true, true, true, true, true, true, true, true, true, true, true, true, true, true, true, true, true, true, true, true, true, true, true, false, false, false, false] rfl rfl (any_of HT_.out (by kernel_rfl)) (fun _ _ _ h => h) (Or.inl ⟨by rfl, ?_⟩) ?_ ?_
  rotate_left
  · intro w'
    go_simp
    with_reducible rfl
  rotate_left
  · simp only [Act.put, List.setIfInBounds_toArray, List.set_cons_zero, List.set_cons_succ, i64_w, i32_w]
    rfl
  refine pure_ (i := 51) (N := some 104) (v := ?_) (a' := ?_) #[true, true, true, true, true, true, true, true, true, true, true, true, true, true, true, true, true, true, true, true, true, true, true, true, true, true, true, true, true, true, true, true, true, true, true, true, true, true, true, true, true, true, true, true, true, true, true, true, true, true, true, true, false, false, false] rfl rfl (any_of HT_.out (by kernel_rfl)) (fun _ _ _ h => h) (Or.inl ⟨by rfl, ?_⟩) ?_ ?_
  rotate_left
  · intro w'
    go_simp
    with_reducible rfl
  rotate_left
  · simp only [Act.put, List.setIfInBounds_toArray, List.set_cons_zero, List.set_cons_succ, i64_w, i32_w]
    rfl
  refine one_ (i := 52) (N := some 105) #[true, true, true, true, true, true, true, true, true, true, true, true, true, true, true, true, true, true, true, true, true, true, true, true, true, true, true, true, true, true, true, true, true, true, true, true, true, true, true, true, true, true, true, true, true, true, true, true, true, true, true, true, true, false, false] rfl rfl (one_of HT_.out (by kernel_rfl)) (by decide) (fun K hK => ?_)
  refine goes_ Tryd.func9 (by kernel_rfl) rfl #[] (by rfl) rfl rfl (by (try simp only [List.map_toArray, List.map_cons, List.map_nil]); first | done | rfl) ?_
  refine (undercroftlaw13_alive.calls k true _ A16_.out).mono ?_
  rintro e_ wz12 ⟨rfl, hb⟩
  refine ⟨_, rfl, ?_⟩
  have n0_ := Aside0.mk (below_step HBc.out hb)
  clear hb
  clear HBc
  have HBc := n0_
  clear n0_
  refine hK.out _ _ (HS.out _ HBc.out) (fun hHeld => ?_)
  clear hK K
  refine norm_ (a' := ?_) ?_ ?_
  rotate_left
  · show Act.put _ (some 105) _ = _
    simp only [Act.put, List.setIfInBounds_toArray, List.set_cons_zero, List.set_cons_succ, i64_w, i32_w]
    rfl
  refine pure_ (i := 53) (N := some 106) (v := ?_) (a' := ?_) #[true, true, true, true, true, true, true, true, true, true, true, true, true, true, true, true, true, true, true, true, true, true, true, true, true, true, true, true, true, true, true, true, true, true, true, true, true, true, true, true, true, true, true, true, true, true, true, true, true, true, true, true, true, true, false] rfl rfl (any_of HT_.out (by kernel_rfl)) (fun _ _ _ h => h) (Or.inl ⟨by rfl, ?_⟩) ?_ ?_
  rotate_left
  · intro w'
    go_simp
    with_reducible rfl
  rotate_left
  · simp only [Act.put, List.setIfInBounds_toArray, List.set_cons_zero, List.set_cons_succ, i64_w, i32_w]
    rfl
  refine pure_ (i := 54) (N := some 4) (v := ?_) (a' := ?_) #[true, true, true, true, true, true, true, true, true, true, true, true, true, true, true, true, true, true, true, true, true, true, true, true, true, true, true, true, true, true, true, true, true, true, true, true, true, true, true, true, true, true, true, true, true, true, true, true, true, true, true, true, true, true, true] rfl rfl (any_of HT_.out (by kernel_rfl)) (fun _ _ _ h => h) (Or.inl ⟨by rfl, ?_⟩) ?_ ?_
  rotate_left
  · intro w'
    go_simp
    with_reducible rfl
  rotate_left
  · simp only [Act.put, List.setIfInBounds_toArray, List.set_cons_zero, List.set_cons_succ, i64_w, i32_w]
    rfl
  refine done_ (done_of HT_.out (by kernel_rfl)) ?_
  go_wp2
  go_ret
  exact ⟨rfl, below_step HB12.out HBc.out⟩

end Go.Proofs.YtokjiinlhghggaaDoor.PTel
