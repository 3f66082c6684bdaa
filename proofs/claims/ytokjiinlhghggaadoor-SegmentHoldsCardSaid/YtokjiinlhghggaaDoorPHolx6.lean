-- Written by a program of this session (gen.py).
import Derived.Test.YtokjiinlhghggaaDoorPHolx0
import Derived.Test.YtokjiinlhghggaaDoorPHolx3
import Derived.Test.YtokjiinlhghggaaDoorPHolx5
namespace Go.Proofs.YtokjiinlhghggaaDoor.PHol
open Go.RowKit Go.Proofs.YtokjiinlhghggaaDoorW.PrintWords Go.Proofs.YtokjiinlhghggaaDoorW.PrintLast Go.Proofs.YtokjiinlhghggaaDoorW.PrintMore
open Go.Proofs.YtokjiinlhghggaaDoor.Own
attribute [local go_sem high] unary_not_u32 unary_not_u64 unary_not_u8 string_leq_ string_gtr_
attribute [local go_sem] max2_int min2_int max_two min_two max_three min_three max_four min_four   -- for this text's walks alone
set_option linter.unusedVariables false
set_option linter.unusedSimpArgs false

/-! ### undercroftlaw13_num: function 12 -/
def undercroftlaw13_num.f (a0 : Int) : Option (Int) := some a0
set_option maxHeartbeats 8000000 in
set_option maxRecDepth 100000 in
theorem undercroftlaw13_num.calls (a0 : Int) (r : Int) (w : World) (h : undercroftlaw13_num.f a0 = some r) :
    Calls Tryd.prog 12 #[.int .i64 a0] w fun e w' => e = .returned (.int .i64 r) ∧ Drawn0 w w' := by
  have H : (some a0) = some r := h
  clear h
  obtain rfl := Option.some.inj H
  go_enter Tryd.func12, Tryd.ntmps12
  go_wp2
  go_ret
  exact ⟨by first | rfl | (simp; done) | (simp [*]; done) | (exfalso; simp only [beq_iff_eq, decide_eq_true_eq] at *; omega), by repeat (first | exact Drawn0.refl _ | apply Drawn0.step)⟩

/-! ### undercroftlaw13_alive: function 9 -/
/-- A constant's octet, marked: it reads as it is. -/
theorem const1_C (w : World) (x : Int) : Kd.C (Kd.int .u8) (w.alloc (.cells #[.int .u8 x] 5 (1, 2))) (some ⟨w.heap.size, 0, none⟩) 1 [x] := by
  refine ⟨rfl, by decide, fun _ => ⟨_, rfl, fun j p hp => ?_⟩⟩
  obtain ⟨hj, rfl⟩ := List.getElem?_eq_some_iff.1 hp
  have hj0 : j = 0 := by simpa using hj
  subst hj0
  refine ⟨[.int .u8 x], rfl, rfl, fun i u hu => ?_⟩
  have ha : (⟨w.heap.size, 0, none⟩ : Addr).add (0 * (Kd.int .u8).sz + i) = ⟨w.heap.size, i, none⟩ := by
    rw [Nat.zero_mul, Nat.zero_add, Addr.add_lit, Nat.zero_add]
  rw [ha, World.cell?_alloc_mark, ← Array.getElem?_toList]
  exact hu
/-- One block in a new row. -/
theorem block1_C (w : World) (x : S43) (A : Option Addr) (c : Nat) (hc : x.f2.length ≤ c) (h : Kd.C (Kd.int .u8) w A x.f2.length x.f2) : Kd.C k43 (w.alloc (.cells #[.int .i64 x.f0, .int .i64 x.f1, .slice A x.f2.length c] 43)) (some ⟨w.heap.size, 0, none⟩) 1 [x] := by
  refine ⟨rfl, by decide, fun _ => ⟨_, rfl, fun j p hp => ?_⟩⟩
  obtain ⟨hj, rfl⟩ := List.getElem?_eq_some_iff.1 hp
  have hj0 : j = 0 := by simpa using hj
  subst hj0
  refine ⟨_, rfl, k43_mk _ x hc (Kd.C_alloc h _), fun i u hu => ?_⟩
  have ha : (⟨w.heap.size, 0, none⟩ : Addr).add (0 * k43.sz + i) = ⟨w.heap.size, i, none⟩ := by
    rw [Nat.zero_mul, Nat.zero_add, Addr.add_lit, Nat.zero_add]
  rw [ha, World.cell?_alloc_mark, ← Array.getElem?_toList]
  exact hu
theorem C_at {g : Nat} {W W' : World} (hb : Below g W W') {A : Option Addr} {n : Nat} {l : List Int} (h : Kd.C (Kd.int .u8) W A n l) : Kd.C (Kd.int .u8) W A n l := h
def undercroftlaw13_alive.f (k : Nat) : Option Bool := (segment_Seal.f k 1 [⟨1, 0, [120]⟩]).bind fun b => (segment_Open.f b.1).bind fun s => if b.2 = 0 ∧ s.2.2 = 0 ∧ b.1.length = 384 ∧ b.1.take 4 = [115, 101, 103, 49] ∧ s.2.1.length = 1 then some true else none
theorem undercroftlaw13_alive.mono : ∀ k, LeO (undercroftlaw13_alive.f k) (undercroftlaw13_alive.f (k + 1)) := by
  intro k
  unfold undercroftlaw13_alive.f
  exact LeO.bind (segment_Seal.mono _ _ k) (fun _ => LeO.refl _)
set_option maxHeartbeats 8000000 in
set_option maxRecDepth 100000 in
theorem undercroftlaw13_alive.calls (k : Nat) (r : Bool) (w : World) (h : undercroftlaw13_alive.f k = some r) :
    Calls Tryd.prog 9 #[] w fun e w' => e = .returned (.bool r) ∧ Below w.heap.size w w' := by
  unfold undercroftlaw13_alive.f at h
  obtain ⟨⟨b, b2⟩, h1, g1⟩ := Option.bind_eq_some_iff.1 h
  obtain ⟨⟨s1, s2, s3⟩, h2, g2⟩ := Option.bind_eq_some_iff.1 g1
  clear h g1
  simp only at g2 h1 h2
  by_cases hc : b2 = 0 ∧ s3 = 0 ∧ b.length = 384 ∧ b.take 4 = [115, 101, 103, 49] ∧ s2.length = 1
  case neg => rw [if_neg hc] at g2; cases g2
  rw [if_pos hc] at g2
  obtain ⟨e_1, e_2, hl, ht, hs⟩ := hc
  subst e_1 e_2
  obtain rfl := Option.some.inj g2
  have A1 := Aside0.mk h1
  have A2 := Aside0.mk h2
  have HL := Aside0.mk hl
  have HT := Aside0.mk ht
  have HS := Aside0.mk hs
  clear g2 h1 h2 hl ht hs
  have HB0 := Aside0.mk (below_alloc (below_alloc (Below.refl w.heap.size w) (.cells #[.int .u8 120] 5 (1, 2))) (.cells #[.int .i64 1, .int .i64 0, .slice (some ⟨w.heap.size, 0, none⟩) 1 1] 43))
  have HC0 : Aside0 (Kd.C k43 ((w.alloc (.cells #[.int .u8 120] 5 (1, 2))).alloc (.cells #[.int .i64 1, .int .i64 0, .slice (some ⟨w.heap.size, 0, none⟩) 1 1] 43)) (some ⟨w.heap.size + 1, 0, none⟩) 1 [(⟨1, 0, [120]⟩ : S43)]) := ⟨by
    have h_ := block1_C (w.alloc (.cells #[.int .u8 120] 5 (1, 2))) ⟨1, 0, [120]⟩ (some ⟨w.heap.size, 0, none⟩) 1 (Nat.le_refl _) (const1_C w 120)
    have e_ : (w.alloc (.cells #[.int .u8 120] 5 (1, 2))).heap.size = w.heap.size + 1 := by simp
    rw [e_] at h_
    exact h_⟩
  have kc := fun (w : World) (C : Array Value) (n c : Nat) => Lib.run_convert_bytes_const (P := Tryd.prog) w 25 5 C n c Tryd.underlying25 Tryd.underlying5
  have hcs : ((strOfNums [115, 101, 103, 49]).toList == ([115, 101, 103, 49] : List UInt8)) = true := by decide +kernel
  obtain ⟨i0, hi0, _, hsz0, _⟩ := info_parts info5
  have hu32 := Tryd.underlying32
  have hu43 := Tryd.underlying43
  go_enter Tryd.func9, Tryd.ntmps9
  go_wp2_with (first
    | (go_at_call 10; go_loud (refine (segment_Seal.calls k 1 (some ⟨w.heap.size + 1, 0, none⟩) 1 [(⟨1, 0, [120]⟩ : S43)] b 0 _ HC0.out (Nat.le_refl _) A1.out).mono ?_; rintro e w1 ⟨v1, rfl, ho1, hb1⟩; have hB1 := below_step HB0.out hb1; obtain ⟨Ab, cb, rfl⟩ := Kd.R_slice ho1; have hx1 := Kd.R_reads' ho1; have HB1 := Aside0.mk hB1; have HX1 := Aside0.mk hx1; clear ho1 hb1 hB1 hx1))
    | (go_at_call 13; go_loud (refine (segment_Open.calls Ab cb b s1 s2 0 _ HX1.out.2.2 HX1.out.2.1 A2.out).mono ?_; rintro e w2 ⟨v2, rfl, ho2, hb2⟩; obtain ⟨A3, c3, rfl⟩ := Kd.N_slice (Kd.S_N ho2); have HX2 := Aside0.mk (And.intro HX1.out.2.1 (Kd.C_below HX1.out.2.2 hb2)); have HB2 := Aside0.mk (below_step HB1.out hb2); clear HX1 HB1 ho2 hb2; rw [HS.out]))
    | ((with_reducible refine gate_dst (N := 3) rfl ?_); (try (refine gate_guard (by rfl) ?_; dsimp only)); refine box_event ?hg (N := 3) ?hd (cs := #[.int .i64 0, .slice none 0 0]) (t := 32) ?hr ?_; (case hd => rfl); (case hg => rfl); (case hr => first | (go_simp; done) | (go_simp; rfl)); intro gb hg w3 hbox hb; go_loud (have HG := Aside0.mk ((by rw [hg]; exact below_size (by repeat (first | (with_reducible first | exact HB2.out | apply below_alloc | apply pw_below_drewN | apply below_drew1) | exact HB2.out))) : w.heap.size ≤ gb); have HB3 := Aside0.mk (below_step (by repeat (first | (with_reducible first | exact HB2.out | apply below_alloc | apply pw_below_drewN | apply below_drew1) | exact HB2.out)) hb); have HGW := Aside0.mk (Nat.le_of_eq hg.symm); have HBW := Aside0.mk hb; have HXW := Aside0.mk (C_at hb (by (with_reducible repeat (first | apply Kd.C_drewN | apply Kd.C_drew)); exact HX2.out.2)); have HCP := Aside0.mk HX2.out.1; have HBK := Aside0.mk hbox; clear HX2 HB2 hb hg hbox; have hcz0 : w3.cell? ⟨gb, 0, none⟩ = some (.int .i64 0) := (blk_cell HBK.out 0).trans rfl; have hcz1 : w3.cell? ⟨gb, 1, none⟩ = some (.slice none 0 0) := (blk_cell HBK.out 1).trans rfl; have hfz0 := blk_frozen HBK.out 0; have hfz1 := blk_frozen HBK.out 1))
    | ((with_reducible refine gate_store (t := 32) (p := 3) rfl ?_); refine store_event (t := 32) (p := 3) (v := ?vo_w21) (w1 := ((w3.setCell ⟨gb, 0, none⟩ (.int .i64 s1)).setCell ⟨gb, 1, none⟩ (.slice A3 1 c3))) ?hg ?ho ?hn ?hr ?_; (case ho => rfl); (case hg => rfl); (case hn => rfl); (case hr => first | (go_simp; done) | (go_simp; rfl)); intro w4 hw; go_loud (have HB4 := Aside0.mk (by rw [hw]; exact below_set (below_set HB3.out HG.out) HG.out : Below w.heap.size w w4); have HC4 : Aside0 (Kd.C (Kd.int .u8) w4 Ab b.length b) := ⟨Kd.C_below (w1 := w4) HXW.out (by rw [hw]; exact below_set (below_set HBW.out HGW.out) HGW.out)⟩; have HD4 : Aside0 (w4.heap[gb]? = some (.cells #[.int .i64 s1, .slice A3 1 c3] 32 (0, 0))) := ⟨by rw [hw]; refine blk_put (cs := #[.int .i64 s1, .slice none 0 0]) ?_ 1 _ rfl; refine blk_put (cs := #[.int .i64 0, .slice none 0 0]) ?_ 0 _ rfl; exact HBK.out⟩; have hq0 : w4.cell? ⟨gb, 0, none⟩ = some (.int .i64 s1) := (blk_cell HD4.out 0).trans rfl; have hq1 : w4.cell? ⟨gb, 1, none⟩ = some (.slice A3 1 c3) := (blk_cell HD4.out 1).trans rfl; clear hw hcz0 hcz1 hfz0 hfz1 HBW HB3 HXW HBK; have hC5 := Kd.C_take (m := 4) HC4.out (by rw [HL.out]; decide); obtain ⟨y, hy⟩ : ∃ y, y = b.take 4 := ⟨_, rfl⟩; rw [← hy] at hC5; have hyl : y.length = 4 := (by rw [hy, List.length_take, HL.out]; rfl); rw [hyl] at hC5; have hcut := cut_to (P := Tryd.prog) 25 5 .i64 Tryd.underlying25 hi0 Ab b.length cb 4 (by decide) (by rw [HL.out]; decide) HCP.out; have hcv := Kd.C_string (A := Ab) (c := cb) (P := Tryd.prog) Tryd.underlying25 Tryd.underlying5 Tryd.underlying9 hC5; have hcvd := fun m_ : Nat => Kd.C_string (A := Ab) (c := cb) (P := Tryd.prog) Tryd.underlying25 Tryd.underlying5 Tryd.underlying9 (Kd.C_drewN hC5 m_); have hst : ((strOfNums y).toList == ([115, 101, 103, 49] : List UInt8)) = true := (by rw [hy, HT.out]; exact hcs); have hql : ((b.length : Int) == 384) = true := (by rw [HL.out]; rfl); have hHY := Aside0.mk hy; clear hy hC5))
    | (go_at_call 12; refine (undercroftlaw13_num.calls 0 0 _ rfl).mono ?_; rintro e w5 ⟨rfl, hd⟩; obtain ⟨nd, rfl⟩ := hd.out))
  go_ret
  exact ⟨rfl, pw_below_drewN HB4.out _⟩

/-! ### undercroftplain_SameBytes: function 15 -/
def undercroftplain_SameBytes.l0 : Nat → List Int → List Int → Int → Option (Bool)
  | 0, _, _, _ => none
  | k + 1, x0, x1, x5 => if x5 < (x0.length : Int) then (if 0 ≤ x5 then (if x5 < (x1.length : Int) then (if (rd x0 x5) = (rd x1 x5) then (undercroftplain_SameBytes.l0 k x0 x1 (wrap64 (x5 + 1))) else (some false)) else (none)) else (none)) else (some true)
def undercroftplain_SameBytes.f (k : Nat) (l0 : List Int) (l1 : List Int) : Option (Bool) := if (l0.length : Int) = (l1.length : Int) then (undercroftplain_SameBytes.l0 k l0 l1 0) else (some false)
theorem undercroftplain_SameBytes.mono_l : ∀ k, (∀ y0 y1 y2, LeO (undercroftplain_SameBytes.l0 k y0 y1 y2) (undercroftplain_SameBytes.l0 (k + 1) y0 y1 y2))
  | 0 => fun _ _ _ r h => by simp [undercroftplain_SameBytes.l0] at h
  | k + 1 => by
    have ih0 := undercroftplain_SameBytes.mono_l k
    · intro y0 y1 y2
      unfold undercroftplain_SameBytes.l0
      repeat' first
      | (with_reducible exact ih0 _ _ _)
      | (with_reducible exact LeO.refl _)
      | (with_reducible exact LeO.none _)
      | (with_reducible refine LeO.ite ?_ ?_)
      | (with_reducible refine LeO.bind ?_ (fun _ => ?_))
      | exact ih0 _ _ _
      | exact LeO.none _
      | refine LeO.ite ?_ ?_
      | refine LeO.bind ?_ (fun _ => ?_)
theorem undercroftplain_SameBytes.mono : ∀ a0 a1 k, LeO (undercroftplain_SameBytes.f k a0 a1) (undercroftplain_SameBytes.f (k + 1) a0 a1) := by
  intro a0 a1 k
  have ih0 := undercroftplain_SameBytes.mono_l k
  unfold undercroftplain_SameBytes.f
  repeat' first
      | (with_reducible exact ih0 _ _ _)
      | (with_reducible exact LeO.refl _)
      | (with_reducible exact LeO.none _)
      | (with_reducible refine LeO.ite ?_ ?_)
      | (with_reducible refine LeO.bind ?_ (fun _ => ?_))
      | exact ih0 _ _ _
      | exact LeO.none _
      | refine LeO.ite ?_ ?_
      | refine LeO.bind ?_ (fun _ => ?_)
set_option maxHeartbeats 8000000 in
set_option maxRecDepth 100000 in
theorem undercroftplain_SameBytes.calls (k : Nat) (A0 : Option Addr) (c0 : Nat) (l0 : List Int) (A1 : Option Addr) (c1 : Nat) (l1 : List Int) (r : Bool) (w : World) (hr0 : Kd.C (Kd.int .u8) w A0 l0.length l0) (hc0 : l0.length ≤ c0) (hr1 : Kd.C (Kd.int .u8) w A1 l1.length l1) (hc1 : l1.length ≤ c1) (h : undercroftplain_SameBytes.f k l0 l1 = some r) :
    Calls Tryd.prog 15 #[.slice A0 l0.length c0, .slice A1 l1.length c1] w fun e w' => e = .returned (.bool r) ∧ Drawn0 w w' := by
  have HR0 := Aside0.mk hr0
  have HC0 := Aside0.mk hc0
  clear hr0 hc0
  have HR1 := Aside0.mk hr1
  have HC1 := Aside0.mk hc1
  clear hr1 hc1
  have H : (if (l0.length : Int) = (l1.length : Int) then (undercroftplain_SameBytes.l0 k l0 l1 0) else (some false)) = some r := h
  clear h
  by_cases c3 : (l0.length : Int) = (l1.length : Int)
  · rw [if_pos c3] at H
    have c3b0 : ((l0.length : Int) == (l1.length : Int)) = true := beq_iff_eq.mpr c3
    have c3b1 : ((l0.length : Int) != (l1.length : Int)) = false := bne_eq_false_iff_eq.mpr c3
    have c3b2 : (l0.length == l1.length) = true := by first | simpa using c3 | (simp at c3 ⊢; omega)
    clear c3
    have H' := Aside0.mk H
    clear H
    go_enter Tryd.func15, Tryd.ntmps15
    go_wp2
    repeat (go_quiet (fail); try go_wp2)
    go_loopg [5] k (fun kq v5 w' => ∃ (x5_1 : Int), v5 = .int .i64 x5_1 ∧ Aside0 (undercroftplain_SameBytes.l0 kq l0 l1 x5_1 = some r) ∧ Aside0 (kq ≤ k) ∧ Drawn0 w w')
    case atStart => exact ⟨(0), (by first | rfl | (simp; done) | (simp [*]; done)), H', ⟨Nat.le_refl _⟩, by repeat (first | exact Drawn0.refl _ | apply Drawn0.step)⟩
    case round =>
      clear H'
      try clear c1
      try clear p2
      try clear c3
      try clear c3b0
      try clear c3b1
      try clear c3b2
      obtain ⟨x5_1, rfl, HA, HK1, ⟨m1, rfl⟩⟩ := hrel
      cases gk with
      | zero => exact absurd HA.out (by simp [undercroftplain_SameBytes.l0])
      | succ k1 =>
        have H := HA.out
        clear HA
        simp only [undercroftplain_SameBytes.l0] at H
        by_cases c4 : x5_1 < (l0.length : Int)
        · rw [if_pos c4] at H
          have c4b0 : decide (x5_1 < (l0.length : Int)) = true := decide_eq_true c4
          clear c4
          by_cases c5 : 0 ≤ x5_1
          · rw [if_pos c5] at H
            have c5b0 : decide (0 ≤ x5_1) = true := decide_eq_true c5
            clear c5
            by_cases c6 : x5_1 < (l1.length : Int)
            · rw [if_pos c6] at H
              have c6b0 : decide (x5_1 < (l1.length : Int)) = true := decide_eq_true c6
              clear c6
              by_cases c7 : (rd l0 x5_1) = (rd l1 x5_1)
              · rw [if_pos c7] at H
                have c7b0 : ((rd l0 x5_1) == (rd l1 x5_1)) = true := beq_iff_eq.mpr c7
                have c7b1 : ((rd l0 x5_1) != (rd l1 x5_1)) = false := bne_eq_false_iff_eq.mpr c7
                clear c7
                have H' := Aside0.mk H
                clear H
                have p114 : 0 ≤ (x5_1 : Int) := of_decide_eq_true (by first | (with_reducible assumption) | assumption)
                have q114 : x5_1 < (l0.length : Int) := of_decide_eq_true (by first | (with_reducible assumption) | assumption)
                obtain ⟨ad114, e114, hx114_0⟩ := Kd.at_int HR0.out x5_1 p114 q114
                cases e114
                replace p114 := eq_true p114
                replace q114 := eq_true q114
                have p115 : 0 ≤ (x5_1 : Int) := of_decide_eq_true (by first | (with_reducible assumption) | assumption)
                have q115 : x5_1 < (l1.length : Int) := of_decide_eq_true (by first | (with_reducible assumption) | assumption)
                obtain ⟨ad115, e115, hx115_0⟩ := Kd.at_int HR1.out x5_1 p115 q115
                cases e115
                replace p115 := eq_true p115
                replace q115 := eq_true q115
                go_wp2
                repeat (go_quiet (fail); try go_wp2)
                go_roundg k1
                case measure => have := HK1.out; omega
                case rel => exact ⟨(wrap64 (x5_1 + 1)), (by first | rfl | (simp; done) | (simp [*]; done)), H', ⟨by have := HK1.out; omega⟩, by repeat (first | exact Drawn0.refl _ | apply Drawn0.step)⟩
              · rw [if_neg c7] at H
                have c7b0 : ((rd l0 x5_1) == (rd l1 x5_1)) = false := beq_eq_false_iff_ne.mpr c7
                have c7b1 : ((rd l0 x5_1) != (rd l1 x5_1)) = true := bne_iff_ne.mpr c7
                obtain rfl := Option.some.inj H
                have p114 : 0 ≤ (x5_1 : Int) := of_decide_eq_true (by first | (with_reducible assumption) | assumption)
                have q114 : x5_1 < (l0.length : Int) := of_decide_eq_true (by first | (with_reducible assumption) | assumption)
                obtain ⟨ad114, e114, hx114_0⟩ := Kd.at_int HR0.out x5_1 p114 q114
                cases e114
                replace p114 := eq_true p114
                replace q114 := eq_true q114
                have p115 : 0 ≤ (x5_1 : Int) := of_decide_eq_true (by first | (with_reducible assumption) | assumption)
                have q115 : x5_1 < (l1.length : Int) := of_decide_eq_true (by first | (with_reducible assumption) | assumption)
                obtain ⟨ad115, e115, hx115_0⟩ := Kd.at_int HR1.out x5_1 p115 q115
                cases e115
                replace p115 := eq_true p115
                replace q115 := eq_true q115
                go_wp2
                repeat (go_quiet (fail); try go_wp2)
                go_ret
                exact ⟨by first | rfl | (simp; done) | (simp [*]; done) | (exfalso; simp only [beq_iff_eq, decide_eq_true_eq] at *; omega), by repeat (first | exact Drawn0.refl _ | apply Drawn0.step)⟩
            · rw [if_neg c6] at H
              exact absurd H (by simp)
          · rw [if_neg c5] at H
            exact absurd H (by simp)
        · rw [if_neg c4] at H
          have c4b0 : decide (x5_1 < (l0.length : Int)) = false := decide_eq_false c4
          clear c4
          obtain rfl := Option.some.inj H
          go_wp2
          repeat (go_quiet (fail); try go_wp2)
          go_ret
          exact ⟨by first | rfl | (simp; done) | (simp [*]; done) | (exfalso; simp only [beq_iff_eq, decide_eq_true_eq] at *; omega), by repeat (first | exact Drawn0.refl _ | apply Drawn0.step)⟩
  · rw [if_neg c3] at H
    have c3b0 : ((l0.length : Int) == (l1.length : Int)) = false := beq_eq_false_iff_ne.mpr c3
    have c3b1 : ((l0.length : Int) != (l1.length : Int)) = true := bne_iff_ne.mpr c3
    have c3b2 : (l0.length == l1.length) = false := by first | simpa using c3 | (simp at c3 ⊢; omega)
    obtain rfl := Option.some.inj H
    go_enter Tryd.func15, Tryd.ntmps15
    go_wp2
    repeat (go_quiet (fail); try go_wp2)
    go_ret
    exact ⟨by first | rfl | (simp; done) | (simp [*]; done) | (exfalso; simp only [beq_iff_eq, decide_eq_true_eq] at *; omega), by repeat (first | exact Drawn0.refl _ | apply Drawn0.step)⟩

end Go.Proofs.YtokjiinlhghggaaDoor.PHol
