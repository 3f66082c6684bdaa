-- Written by a program of this session (gen.py).
import Derived.Test.YtokjiinlhghggaaDoorPHolx0
import Derived.Test.YtokjiinlhghggaaDoorPHolx3
import Derived.Test.YtokjiinlhghggaaDoorPHolx5
import Derived.Test.YtokjiinlhghggaaDoorPHolx6
namespace Go.Proofs.YtokjiinlhghggaaDoor.PHol
open Go.RowKit Go.Proofs.YtokjiinlhghggaaDoorW.PrintWords Go.Proofs.YtokjiinlhghggaaDoorW.PrintLast Go.Proofs.YtokjiinlhghggaaDoorW.PrintMore
open Go.Proofs.YtokjiinlhghggaaDoor.Own
attribute [local go_sem high] unary_not_u32 unary_not_u64 unary_not_u8 string_leq_ string_gtr_
attribute [local go_sem] max2_int min2_int max_two min_two max_three min_three max_four min_four   -- for this text's walks alone
set_option linter.unusedVariables false
set_option linter.unusedSimpArgs false

/-! ### undercroftlaw13_SegmentHolds: function 6 -/
/-- Elements that read as they did at one world: what a shallow copy holds. -/
def frozen {α : Type} (d : Kd α) (w0 : World) : Kd α where
  sz := d.sz
  E := []
  K := fun _ x cs => d.K w0 x cs
  M := fun _ _ _ x cs => d.K w0 x cs
  K_len := d.K_len
  K_one := d.K_one
  K_below := fun _ h => h
  K_of_M := fun h => h
  M_mono := fun _ h => h
  M_bound := fun h => h
  M_move := fun _ h => h
  M_lower := fun _ h => h
theorem frozen_read {α : Type} {d : Kd α} {w0 w : World} {A : Option Addr} {n : Nat} {xs : List α} (h : (frozen d w0).C w A n xs) (hb : Below w0.heap.size w0 w) : d.C w A n xs := ReadsRow.imp_ h (Below.refl _ _) (fun _ _ hp => d.K_below hb hp)
def holdsQ (n : Int) : Int := wrap64 (1 + Int.tmod (wrap64 (Int.tmod n 1000 + 1000)) 1000)
def holdsS (l : List (List Int)) : List S43 := (l.take 12).zipIdx.map fun p => ⟨1 + (p.2 : Int), (p.2 : Int), p.1.take 32⟩
theorem holdsS_length (l : List (List Int)) : (holdsS l).length = min 12 l.length := by simp [holdsS]
theorem holdsS_next (l : List (List Int)) (m : Nat) (h1 : m < l.length) (h2 : m < 12) : (holdsS l).take (m + 1) = (holdsS l).take m ++ [⟨1 + (m : Int), (m : Int), (rd_L2 l (m : Int)).take 32⟩] := by
  have hm : m < (holdsS l).length := by rw [holdsS_length]; omega
  rw [List.take_succ_eq_append_getElem hm]
  congr 2
  have e : rd_L2 l (m : Int) = l[m] := by unfold rd_L2; rw [Int.toNat_natCast, List.getD_eq_getElem?_getD, List.getElem?_eq_getElem h1]; rfl
  rw [e]
  simp [holdsS]
theorem holdsS_at (l : List (List Int)) (i : Nat) (h : i < (holdsS l).length) : (rd_T43 (holdsS l) (i : Int)).f0 = 1 + (i : Int) ∧ (rd_T43 (holdsS l) (i : Int)).f1 = (i : Int) ∧ rd_T43 (holdsS l) (i : Int) ∈ holdsS l := by
  have e : rd_T43 (holdsS l) (i : Int) = (holdsS l)[i] := by unfold rd_T43; rw [Int.toNat_natCast, List.getD_eq_getElem?_getD, List.getElem?_eq_getElem h]; rfl
  rw [e]
  refine ⟨?_, ?_, List.getElem_mem h⟩ <;> simp [holdsS]
theorem holds_cut {w : World} {A : Option Addr} {x : List Int} (h : (Kd.int .u8).C w A x.length x) : (Kd.int .u8).C w A (x.take 32).length (x.take 32) := by
  by_cases hx : 32 ≤ x.length
  · have h2 := Kd.C_take h (m := 32) hx
    exact h2
  · rwa [List.take_of_length_le (by omega)]
theorem holds_w1 {m : Nat} (h : m < 12) : wrap64 (1 + (m : Int)) = 1 + (m : Int) := by unfold wrap64; omega
theorem holds_w2 {m : Nat} (h : m < 12) : wrap64 ((m : Int) + 1) = ((m + 1 : Nat) : Int) := by unfold wrap64; omega
theorem holds_len {m : Nat} (l : List S43) (h : m < 12) : ((l.take m).length + 1) * 40 ≤ 140737488355328 := by rw [List.length_take]; omega
def key43 (x : S43) : Int × Int × List Int := (x.f0, x.f1, x.f2)
theorem key43_inj {a b : List S43} (h : a.map key43 = b.map key43) : a = b := by
  refine (List.map_inj_right (f := key43) (fun x y h => ?_)).1 h
  cases x; cases y
  simp only [key43, Prod.mk.injEq] at h
  obtain ⟨rfl, rfl, rfl⟩ := h
  rfl
def undercroftlaw13_SegmentHolds.f (k : Nat) (n : Int) (l : List (List Int)) : Option Bool := (undercroftlaw13_alive.f k).bind fun t => if t = true then ((segment_Seal.f k (holdsQ n) (holdsS l)).bind fun b => if 1 ≤ (holdsS l).length ∧ (holdsS l).length ≤ 8 then (segment_Open.f b.1).bind fun s => if (b.2 = 0 ∧ s.2.2 = 0 ∧ s.1 = holdsQ n ∧ s.2.1.map key43 = (holdsS l).map key43) ∧ ((holdsS l).all fun y => undercroftplain_SameBytes.f k y.f2 y.f2 == some true) = true then some true else none else if b.2 = 9 then some ((b.1.length : Int) == 0) else none) else none
theorem undercroftlaw13_SegmentHolds.mono : ∀ a0 a1 k, LeO (undercroftlaw13_SegmentHolds.f k a0 a1) (undercroftlaw13_SegmentHolds.f (k + 1) a0 a1) := by
  intro a0 a1 k
  unfold undercroftlaw13_SegmentHolds.f
  refine LeO.bind (undercroftlaw13_alive.mono k) (fun _ => LeO.ite (LeO.bind (segment_Seal.mono _ _ k) (fun b => LeO.ite (LeO.bind (LeO.refl _) (fun s => ?_)) (LeO.refl _))) (LeO.refl _))
  by_cases h : (b.2 = 0 ∧ s.2.2 = 0 ∧ s.1 = holdsQ a0 ∧ s.2.1.map key43 = (holdsS a1).map key43) ∧ ((holdsS a1).all fun y => undercroftplain_SameBytes.f k y.f2 y.f2 == some true) = true
  · have h' : (b.2 = 0 ∧ s.2.2 = 0 ∧ s.1 = holdsQ a0 ∧ s.2.1.map key43 = (holdsS a1).map key43) ∧ ((holdsS a1).all fun y => undercroftplain_SameBytes.f (k + 1) y.f2 y.f2 == some true) = true := ⟨h.1, by
      have h2 := h.2
      rw [List.all_eq_true] at *
      intro x hx
      have h3 := h2 x hx
      rw [beq_iff_eq] at *
      exact undercroftplain_SameBytes.mono _ _ k _ h3⟩
    rw [if_pos h, if_pos h']
    exact LeO.refl _
  · rw [if_neg h]
    exact LeO.none _
def holds_T8 : Bool × List (List Nat × List Nat) := (true, [([], []), ([0], [0]), ([], []), ([2], [2]), ([], []), ([], []), ([], []), ([5, 6], [5, 6]), ([7], [7]), ([], []), ([], []), ([9, 10], [9, 10]), ([11], [11]), ([12], [12]), ([13], [13]), ([8, 14], [8, 14]), ([3, 4, 15], [3, 4, 15]), ([16], [16]), ([1, 17], [1, 17]), ([0, 1, 2, 3, 4, 5, 6, 7, 8, 9, 10, 11, 12, 13, 14, 15, 16, 17, 18], []), ([19, 18, 18, 0, 1, 2, 3, 4, 5, 6, 7, 8, 9, 10, 11, 12, 13, 14, 15, 16, 17, 18], [18, 19])])
def holds_B8 : List Nat := [0, 1, 0, 4, 0, 0, 0, 96, 224, 0, 0, 1536, 3584, 7680, 15872, 32736, 65532, 131068, 262143, 524287, 1048575]
theorem holds_tab8 : rtab .any (opsOf Tryd.f6 8) = holds_T8 := by kernel_rfl
theorem holds_bits8 : waitsOk holds_T8.2 holds_B8 = true := by kernel_rfl
def holds_T18 : Bool × List (List Nat × List Nat) := (true, [([], []), ([0], [0]), ([], []), ([1, 2], [1, 2]), ([3], [3]), ([4], [4]), ([], []), ([6], [6]), ([5, 7], [5, 7]), ([8], [8]), ([9], [9]), ([10, 9], [9, 10]), ([9], [9]), ([11, 12, 9], [9, 11, 12]), ([13, 9], [9, 13]), ([14, 9], [9, 14]), ([9], [9]), ([15, 16, 9], [9, 15, 16]), ([9, 17], [9, 17]), ([18, 9], [18]), ([19], [19]), ([20, 19], [19, 20]), ([19], [19]), ([21, 22, 19], [19, 21, 22]), ([23, 19], [19, 23]), ([24, 19], [19, 24]), ([19], [19]), ([26, 19], [19, 26]), ([19], [19]), ([27, 28, 19], [19, 27, 28]), ([29, 19], [19, 29]), ([30, 19], [19, 30]), ([25, 31, 19, 19], [19, 25, 31]), ([32, 19], [19, 32]), ([19, 33], [19, 33])])
def holds_B18 : List Nat := [0, 1, 0, 7, 15, 31, 0, 64, 255, 511, 1023, 2047, 1023, 8191, 16383, 32767, 1023, 131071, 262143, 524287, 1048575, 2097151, 1048575, 8388607, 16777215, 33554431, 1048575, 68157439, 1048575, 470810623, 1007681535, 2081423359, 4294967295, 8589934591, 17179869183]
theorem holds_tab18 : rtab .any (opsOf Tryd.f6 18) = holds_T18 := by kernel_rfl
theorem holds_bits18 : waitsOk holds_T18.2 holds_B18 = true := by kernel_rfl
set_option maxHeartbeats 8000000 in
set_option maxRecDepth 100000 in
theorem undercroftlaw13_SegmentHolds.calls (k : Nat) (n : Int) (A1 : Option Addr) (c1 : Nat) (l : List (List Int)) (r : Bool) (w : World) (hr1 : Kd.C (Kd.slice 5 (Kd.int .u8)) w A1 l.length l) (hc1 : l.length ≤ c1) (h : undercroftlaw13_SegmentHolds.f k n l = some r) :
    Calls Tryd.prog 6 #[.int .i64 n, .slice A1 l.length c1] w fun e w' => e = .returned (.bool r) ∧ Below w.heap.size w w' := by
  have HRW := Aside0.mk hr1
  have HC1 := Aside0.mk hc1
  unfold undercroftlaw13_SegmentHolds.f at h
  obtain ⟨t, h1, g1⟩ := Option.bind_eq_some_iff.1 h
  by_cases ht : t = true
  case neg => rw [if_neg ht] at g1; cases g1
  subst ht
  rw [if_pos rfl] at g1
  obtain ⟨⟨b, be⟩, h3, g3⟩ := Option.bind_eq_some_iff.1 g1
  obtain ⟨q, hq⟩ : ∃ q, q = holdsQ n := ⟨_, rfl⟩
  rw [← hq] at h3 g3
  have A1_ := Aside0.mk h1
  have A3 := Aside0.mk h3
  have A4 := Aside0.mk g3
  have HQ := Aside0.mk (show wrap64 (1 + Int.tmod (wrap64 (Int.tmod n 1000 + 1000)) 1000) = q from hq.symm)
  clear h g1 g3 h1 h3 hr1 hc1 hq
  have hu32 := Tryd.underlying32
  have hu43 := Tryd.underlying43
  go_enter Tryd.func6, Tryd.ntmps6
  obtain ⟨N, hN⟩ : ∃ N, N = (holdsS l).length := ⟨_, rfl⟩
  have HN := Aside0.mk (show N = min 12 l.length by rw [hN]; exact holdsS_length l)
  have HNS := Aside0.mk hN
  clear hN
  go_upto_region 3 with (first
    | (go_at_call 9; go_loud (refine (undercroftlaw13_alive.calls k true _ A1_.out).mono ?_; rintro e w1 ⟨rfl, hb1⟩; have HB1 := Aside0.mk hb1; clear hb1)))
  have hQ := HQ.out
  go_wp2_with (first
    | ((with_reducible refine gate_dst (N := 5) rfl ?_); (try (refine gate_guard (by rfl) ?_; dsimp only)); refine box_event ?hg (N := 5) ?hd (cs := #[.int .i64 0, .slice none 0 0]) (t := 32) ?hr ?_; (case hd => rfl); (case hg => rfl); (case hr => first | (go_simp; done) | (go_simp; rfl)); intro gb hg w3 hbox hb; go_loud (have HG := Aside0.mk hg; have HBX := Aside0.mk hb; have HBK := Aside0.mk hbox; clear hb hg hbox; have hcz0 : w3.cell? ⟨gb, 0, none⟩ = some (.int .i64 0) := (blk_cell HBK.out 0).trans rfl; have hcz1 : w3.cell? ⟨gb, 1, none⟩ = some (.slice none 0 0) := (blk_cell HBK.out 1).trans rfl; have hfz0 := blk_frozen HBK.out 0; have hfz1 := blk_frozen HBK.out 1))
    | ((with_reducible refine gate_store (t := 32) (p := 5) rfl ?_); refine store_event (t := 32) (p := 5) (v := ?vo_w21) (w1 := ((w3.setCell ⟨gb, 0, none⟩ (.int .i64 q)).setCell ⟨gb, 1, none⟩ (.slice none 0 0))) ?hg ?ho ?hn ?hr ?_; (case ho => rfl); (case hg => rfl); (case hn => rfl); (case hr => first | (go_simp; done) | (go_simp; rfl)); intro w4 hw; go_loud (have hb24 : Below w1.heap.size w1 w4 := (by rw [hw]; exact below_set (below_set HBX.out (Nat.le_of_eq HG.out.symm)) (Nat.le_of_eq HG.out.symm)); have HB4 := Aside0.mk (below_step HB1.out hb24); have HD4 : Aside0 (w4.heap[gb]? = some (.cells #[.int .i64 q, .slice none 0 0] 32 (0, 0))) := ⟨by rw [hw]; refine blk_put (cs := #[.int .i64 q, .slice none 0 0]) ?_ 1 _ rfl; refine blk_put (cs := #[.int .i64 0, .slice none 0 0]) ?_ 0 _ rfl; exact HBK.out⟩; have HG1 : Aside0 (w.heap.size ≤ gb) := ⟨by have h1_ := HG.out; have h2_ := HB1.out.size; omega⟩; have hbl : gb < w4.heap.size := blk_lt HD4.out; have HBL := Aside0.mk hbl; clear hbl hw hcz0 hcz1 hfz0 hfz1 hb24 HBX HBK)))
  clear hQ HQ HG
  go_loopw [6] (fun v6 W => ∃ (m : Nat) (v : Value), m ≤ N ∧ v6 = .int .i64 (m : Int) ∧ Aside0 ((frozen k43 w).R 43 W (gb + 1) (fun _ => True) v ((holdsS l).take m)) ∧ Aside0 (W.heap[gb]? = some (.cells #[.int .i64 q, v] 32 (0, 0))) ∧ Aside0 (Below w.heap.size w W)) (fun v6 _ => N - (intOf v6).toNat)
  case atStart => exact ⟨0, .slice none 0 0, Nat.zero_le _, rfl, ⟨Kd.R_nil _ _ _ _ _⟩, HD4, HB4⟩
  case round =>
    obtain ⟨m, v, hm, rfl, HO, HBOX, HB⟩ := hrel
    have hq0 : wr.cell? ⟨gb, 0, none⟩ = some (.int .i64 q) := (blk_cell HBOX.out 0).trans rfl
    have hq1 : wr.cell? ⟨gb, 1, none⟩ = some v := (blk_cell HBOX.out 1).trans rfl
    by_cases hlt : m < N
    · have hml : m < l.length := by have h_ := HN.out; omega
      have hm12 : m < 12 := by have h_ := HN.out; omega
      have hd1 : decide ((m : Int) < (l.length : Int)) = true := by simp; omega
      have hd2 : decide ((m : Int) < 12) = true := by simp; omega
      have HNX := Aside0.mk (holdsS_next l m hml hm12)
      obtain ⟨ad, Ai, ci, rfl, hxm, hxl, hxC⟩ := at_L2 HRW.out (m : Int) (by omega) (by omega)
      rw [Int.toNat_natCast] at hxm
      generalize rd_L2 l (m : Int) = x at *
      have hmn : (if 32 < (x.length : Int) then (32 : Int) else (x.length : Int)) = ((x.take 32).length : Int) := by rw [List.length_take]; split <;> omega
      have hyl : (x.take 32).length ≤ ci := by rw [List.length_take]; omega
      have hyx : (x.take 32).length ≤ x.length := by rw [List.length_take]; omega
      have hyC : (Kd.int .u8).C w Ai (x.take 32).length (x.take 32) := holds_cut hxC
      generalize x.take 32 = y at *
      have HX := Aside0.mk (k43_mk w (⟨1 + (m : Int), (m : Int), y⟩ : S43) (A2 := Ai) (c2 := ci) hyl hyC)
      have hxm := (HB.out.cell (World.block_lt_of_cell? w _ hxm)).trans hxm
      obtain ⟨i0, hi0, hz0, hs0, _⟩ := info_parts info5
      have k2 : ∀ W : World, (Instr.slice 25 (.slice Ai x.length ci) none (some (.int .i64 (y.length : Int))) none).run Tryd.prog W = .ok (.slice Ai y.length ci) W := fun W => by
        have h_ := cut_to (P := Tryd.prog) 25 5 .i64 Tryd.underlying25 hi0 Ai x.length ci (y.length : Int) (by omega) (by omega) hxl W
        rw [Int.toNat_natCast] at h_
        exact h_
      have hw1 : wrap64 (1 + (m : Int)) = 1 + (m : Int) := holds_w1 hm12
      have hw2 : wrap64 ((m : Int) + 1) = ((m + 1 : Nat) : Int) := holds_w2 hm12
      have p1 : (0 ≤ (m : Int)) = True := eq_true (Int.natCast_nonneg m)
      have p2 : ((m : Int) < (l.length : Int)) = True := eq_true (Int.ofNat_lt.2 hml)
      have p3 : (m < l.length) = True := eq_true hml
      obtain ⟨acc, hacc⟩ : ∃ acc, acc = (holdsS l).take m := ⟨_, rfl⟩
      have HLEN : Aside0 ((acc.length + 1) * 40 ≤ 140737488355328) := ⟨by rw [hacc]; exact holds_len _ hm12⟩
      have HZ : Aside0 (gb + 1 ≤ wr.heap.size) := ⟨blk_lt HBOX.out⟩
      rw [← hacc] at HO HNX
      have HLT := Aside0.mk hlt
      clear hacc hxl hxC hyC hyl hyx hi0 hz0 hs0 hml hm12 hlt hm
      go_wp2_with fail
      refine start_ (n := 21) (S := fun w' => w'.cell? ⟨gb, 1, none⟩ = some v ∧ w'.cell? (ad.add m) = some (.slice Ai x.length ci)) (ds := [18, 20]) #[false, false, false, false, false, false, false, false, false, false, false, false, false, false, false, false, false, false, false, false, false] (by kernel_rfl) rfl rfl ⟨hq1, hxm⟩ (fun hHeld => ?_); refine with_tabW holds_tab8 holds_bits8 (fun HT_ HW_ => ?_)
      refine pure_ (i := 0) (N := some 31) (v := ?_) (a' := ?_) #[true, false, false, false, false, false, false, false, false, false, false, false, false, false, false, false, false, false, false, false, false] rfl rfl (any_of HT_.out (by kernel_rfl)) (fun _ _ _ h => h) (Or.inl ⟨by rfl, ?_⟩) ?_ ?_
      rotate_left
      · intro w'
        go_simp
        with_reducible rfl
      rotate_left
      · simp only [Act.put, List.setIfInBounds_toArray, List.set_cons_zero, List.set_cons_succ, i64_w, i32_w]
        rfl
      refine pure_ (i := 2) (N := some 33) (v := ?_) (a' := ?_) #[true, false, true, false, false, false, false, false, false, false, false, false, false, false, false, false, false, false, false, false, false] rfl rfl (any_of HT_.out (by kernel_rfl)) (fun _ _ _ h => h) (Or.inl ⟨by rfl, ?_⟩) ?_ ?_
      rotate_left
      · intro w'
        go_simp
        with_reducible rfl
      rotate_left
      · simp only [Act.put, List.setIfInBounds_toArray, List.set_cons_zero, List.set_cons_succ, i64_w, i32_w]
        rfl
      refine pure_ (i := 3) (N := some 34) (v := ?_) (a' := ?_) #[true, false, true, true, false, false, false, false, false, false, false, false, false, false, false, false, false, false, false, false, false] rfl rfl (any_of HT_.out (by kernel_rfl)) (fun _ _ _ h => h) (Or.inl ⟨by rfl, ?_⟩) ?_ ?_
      rotate_left
      · intro w'
        go_simp
        with_reducible rfl
      rotate_left
      · simp only [Act.put, List.setIfInBounds_toArray, List.set_cons_zero, List.set_cons_succ, i64_w, i32_w]
        rfl
      refine pure_ (i := 4) (N := some 35) (v := ?_) (a' := ?_) #[true, false, true, true, true, false, false, false, false, false, false, false, false, false, false, false, false, false, false, false, false] rfl rfl (any_of HT_.out (by kernel_rfl)) (fun _ _ _ h => h) (Or.inl ⟨by rfl, ?_⟩) ?_ ?_
      rotate_left
      · intro w'
        go_simp
        with_reducible rfl
      rotate_left
      · simp only [Act.put, List.setIfInBounds_toArray, List.set_cons_zero, List.set_cons_succ, i64_w, i32_w]
        rfl
      refine pure_ (i := 5) (N := some 36) (v := ?_) (a' := ?_) #[true, false, true, true, true, true, false, false, false, false, false, false, false, false, false, false, false, false, false, false, false] rfl rfl (any_of HT_.out (by kernel_rfl)) (fun _ _ _ h => h) (Or.inl ⟨by rfl, ?_⟩) ?_ ?_
      rotate_left
      · intro w'
        go_simp
        with_reducible rfl
      rotate_left
      · simp only [Act.put, List.setIfInBounds_toArray, List.set_cons_zero, List.set_cons_succ, i64_w, i32_w]
        rfl
      refine pure_ (i := 6) (N := some 37) (v := ?_) (a' := ?_) #[true, false, true, true, true, true, true, false, false, false, false, false, false, false, false, false, false, false, false, false, false] rfl rfl (any_of HT_.out (by kernel_rfl)) (fun _ _ _ h => h) (Or.inl ⟨by rfl, ?_⟩) ?_ ?_
      rotate_left
      · intro w'
        go_simp
        with_reducible rfl
      rotate_left
      · simp only [Act.put, List.setIfInBounds_toArray, List.set_cons_zero, List.set_cons_succ, i64_w, i32_w]
        rfl
      refine take_ (i := 1) (N := some 32) (v := ?_) (a' := ?_) #[true, true, true, true, true, true, true, false, false, false, false, false, false, false, false, false, false, false, false, false, false] rfl rfl (take_ofW HT_.out HW_.out (by kernel_rfl)) (fun _ _ _ h => h) (Or.inl ⟨by rfl, ?_⟩) hHeld ?_ ?_
      rotate_left
      · rintro w' ⟨s0, s1⟩
        go_simp
        with_reducible rfl
      rotate_left
      · simp only [Act.put, List.setIfInBounds_toArray, List.set_cons_zero, List.set_cons_succ, i64_w, i32_w]
        rfl
      refine pure_ (i := 7) (N := some 38) (v := ?_) (a' := ?_) #[true, true, true, true, true, true, true, true, false, false, false, false, false, false, false, false, false, false, false, false, false] rfl rfl (any_of HT_.out (by kernel_rfl)) (fun _ _ _ h => h) (Or.inl ⟨by rfl, ?_⟩) ?_ ?_
      rotate_left
      · intro w'
        go_simp
        with_reducible rfl
      rotate_left
      · simp only [Act.put, List.setIfInBounds_toArray, List.set_cons_zero, List.set_cons_succ, i64_w, i32_w]
        rfl
      refine take_ (i := 8) (N := some 39) (v := ?_) (a' := ?_) #[true, true, true, true, true, true, true, true, true, false, false, false, false, false, false, false, false, false, false, false, false] rfl rfl (take_ofW HT_.out HW_.out (by kernel_rfl)) (fun _ _ _ h => h) (Or.inl ⟨by rfl, ?_⟩) hHeld ?_ ?_
      rotate_left
      · rintro w' ⟨s0, s1⟩
        go_simp
        with_reducible rfl
      rotate_left
      · simp only [Act.put, List.setIfInBounds_toArray, List.set_cons_zero, List.set_cons_succ, i64_w, i32_w]
        rfl
      refine pure_ (i := 9) (N := some 40) (v := ?_) (a' := ?_) #[true, true, true, true, true, true, true, true, true, true, false, false, false, false, false, false, false, false, false, false, false] rfl rfl (any_of HT_.out (by kernel_rfl)) (fun _ _ _ h => h) (Or.inl ⟨by rfl, ?_⟩) ?_ ?_
      rotate_left
      · intro w'
        go_simp
        with_reducible rfl
      rotate_left
      · simp only [Act.put, List.setIfInBounds_toArray, List.set_cons_zero, List.set_cons_succ, i64_w, i32_w]
        rfl
      refine pure_ (i := 10) (N := some 41) (v := ?_) (a' := ?_) #[true, true, true, true, true, true, true, true, true, true, true, false, false, false, false, false, false, false, false, false, false] rfl rfl (any_of HT_.out (by kernel_rfl)) (fun _ _ _ h => h) (Or.inl ⟨by rfl, ?_⟩) ?_ ?_
      rotate_left
      · intro w'
        go_simp
        with_reducible rfl
      rotate_left
      · simp only [Act.put, List.setIfInBounds_toArray, List.set_cons_zero, List.set_cons_succ, i64_w, i32_w]
        rfl
      refine pure_ (i := 11) (N := some 42) (v := ?_) (a' := ?_) #[true, true, true, true, true, true, true, true, true, true, true, true, false, false, false, false, false, false, false, false, false] rfl rfl (any_of HT_.out (by kernel_rfl)) (fun _ _ _ h => h) (Or.inl ⟨by rfl, ?_⟩) ?_ ?_
      rotate_left
      · intro w'
        go_simp
        with_reducible rfl
      rotate_left
      · simp only [Act.put, List.setIfInBounds_toArray, List.set_cons_zero, List.set_cons_succ, i64_w, i32_w]
        rfl
      refine take_ (i := 12) (N := some 43) (v := ?_) (a' := ?_) #[true, true, true, true, true, true, true, true, true, true, true, true, true, false, false, false, false, false, false, false, false] rfl rfl (take_ofW HT_.out HW_.out (by kernel_rfl)) (fun _ _ _ h => h) (Or.inl ⟨by rfl, ?_⟩) hHeld ?_ ?_
      rotate_left
      · rintro w' ⟨s0, s1⟩
        go_simp
        with_reducible rfl
      rotate_left
      · simp only [Act.put, List.setIfInBounds_toArray, List.set_cons_zero, List.set_cons_succ, i64_w, i32_w]
        rfl
      refine pure_ (i := 13) (N := some 44) (v := ?_) (a' := ?_) #[true, true, true, true, true, true, true, true, true, true, true, true, true, true, false, false, false, false, false, false, false] rfl rfl (any_of HT_.out (by kernel_rfl)) (fun _ _ _ h => h) (Or.inl ⟨by rfl, ?_⟩) ?_ ?_
      rotate_left
      · intro w'
        go_simp
        with_reducible rfl
      rotate_left
      · simp only [Act.put, List.setIfInBounds_toArray, List.set_cons_zero, List.set_cons_succ, i64_w, i32_w]
        rfl
      refine pure_ (i := 14) (N := some 45) (v := ?_) (a' := ?_) #[true, true, true, true, true, true, true, true, true, true, true, true, true, true, true, false, false, false, false, false, false] rfl rfl (any_of HT_.out (by kernel_rfl)) (fun _ _ _ h => h) (Or.inl ⟨by rfl, ?_⟩) ?_ ?_
      rotate_left
      · intro w'
        go_simp
        with_reducible rfl
      rotate_left
      · simp only [Act.put, List.setIfInBounds_toArray, List.set_cons_zero, List.set_cons_succ, i64_w, i32_w]
        rfl
      refine pure_ (i := 15) (N := some 46) (v := ?_) (a' := ?_) #[true, true, true, true, true, true, true, true, true, true, true, true, true, true, true, true, false, false, false, false, false] rfl rfl (any_of HT_.out (by kernel_rfl)) (fun _ _ _ h => h) (Or.inl ⟨by rfl, ?_⟩) ?_ ?_
      rotate_left
      · intro w'
        go_simp
        with_reducible rfl
      rotate_left
      · simp only [Act.put, List.setIfInBounds_toArray, List.set_cons_zero, List.set_cons_succ, i64_w, i32_w]
        rfl
      refine pure_ (i := 16) (N := some 47) (v := ?_) (a' := ?_) #[true, true, true, true, true, true, true, true, true, true, true, true, true, true, true, true, true, false, false, false, false] rfl rfl (any_of HT_.out (by kernel_rfl)) (fun _ _ _ h => h) (Or.inl ⟨by rfl, ?_⟩) ?_ ?_
      rotate_left
      · intro w'
        go_simp
        with_reducible rfl
      rotate_left
      · simp only [Act.put, List.setIfInBounds_toArray, List.set_cons_zero, List.set_cons_succ, i64_w, i32_w]
        rfl
      refine one_ (i := 17) (N := some 48) #[true, true, true, true, true, true, true, true, true, true, true, true, true, true, true, true, true, true, false, false, false] rfl rfl (one_of HT_.out (by kernel_rfl)) (by decide) (fun K hK => ?_)
      refine value_ (w1 := ?_) (v := ?_) (by rfl) rfl ?_ ?_
      rotate_left 2
      · go_simp
        constructor
        · rfl
        · rfl
      have HKA := Aside0.mk ((below_drew1 (Below.refl wr.heap.size wr)).alloc (Nat.le_refl _) (.cells #[.int .i64 (1 + (m : Int)), .int .i64 (m : Int), .slice Ai y.length ci] 43))
      refine hK.out _ _ ⟨(HKA.out.cell (World.block_lt_of_cell? wr _ hq1)).trans hq1, (HKA.out.cell (World.block_lt_of_cell? wr _ hxm)).trans hxm⟩ (fun hHeld => ?_)
      clear hK K
      refine norm_ (a' := ?_) ?_ ?_
      rotate_left
      · show Act.put _ (some 48) _ = _
        simp only [Act.put, List.setIfInBounds_toArray, List.set_cons_zero, List.set_cons_succ, i64_w, i32_w]
        rfl
      refine last_ (i := 18) (N := some 49) #[true, true, true, true, true, true, true, true, true, true, true, true, true, true, true, true, true, true, true, false, false] rfl rfl (one_of HT_.out (by kernel_rfl)) (by decide) (fun K hK => ?_)
      refine Kd.R_append_step (frozen k43 w) (w0 := wr.drew) (gb + 1) (by rfl) (.tmp 32) (.tmp 48) 30 43 (.agg #[(.int .i64 0), (.int .i64 0), (.slice none 0 0)]) 40 rfl Tryd.underlying30 info43 rfl (show 0 < 3 by decide) (by decide) v acc (⟨1 + (m : Int), (m : Int), y⟩ : S43) [.int .i64 (1 + (m : Int)), .int .i64 (m : Int), .slice Ai y.length ci] (fun _ => True) (fun _ => False) rfl rfl HX.out (fun _ h => h.elim) (fun _ _ => trivial) (Kd.R_drew HO.out) (Below.refl _ _) HZ.out HLEN.out ?_
      intro v12 w12 ho hb hg hat
      obtain ⟨ac, hac⟩ : ∃ ac, ac = acc ++ [(⟨1 + (m : Int), (m : Int), y⟩ : S43)] := ⟨_, rfl⟩
      rw [← hac] at ho HNX
      obtain ⟨D12, e12, rfl⟩ := Kd.R_slice ho
      have HO12 := Aside0.mk ho
      have HB12 := Aside0.mk hb
      clear ho hb hg hat hac
      refine hK.out _ _ ?_
      clear hK K
      refine norm_ (a' := ?_) ?_ ?_
      rotate_left
      · show Act.put _ (some 49) _ = _
        simp only [Act.put, List.setIfInBounds_toArray, List.set_cons_zero, List.set_cons_succ, i64_w, i32_w]
        rfl
      have hB1 : w12.heap[gb]? = some (.cells #[.int .i64 q, v] 32 (0, 0)) := (HB12.out.block gb (Nat.lt_succ_self gb)).trans HBOX.out
      have HB1 := Aside0.mk hB1
      have u1 := blk_cell hB1 1
      have u2 := blk_frozen hB1 1
      clear hB1
      refine pure_ (i := 19) (N := some 50) (v := ?_) (a' := ?_) #[true, true, true, true, true, true, true, true, true, true, true, true, true, true, true, true, true, true, true, true, false] rfl rfl (any_of HT_.out (by kernel_rfl)) (fun _ _ _ h => h) (Or.inl ⟨by rfl, ?_⟩) ?_ ?_
      rotate_left
      · intro w'
        go_simp
        with_reducible rfl
      rotate_left
      · simp only [Act.put, List.setIfInBounds_toArray, List.set_cons_zero, List.set_cons_succ, i64_w, i32_w]
        rfl
      refine last_ (i := 20) (N := none) #[true, true, true, true, true, true, true, true, true, true, true, true, true, true, true, true, true, true, true, true, true] rfl rfl (one_of HT_.out (by kernel_rfl)) (by decide) (fun K hK => ?_)
      refine skip_ (w1 := ?_) (by rfl) rfl ?_ ?_
      rotate_left 1
      · go_simp
        rfl
      refine hK.out _ _ ?_
      clear hK K
      refine done_ (done_of HT_.out (by kernel_rfl)) ?_
      trace_state
      go_wp2
      have hE := HNX.out
      refine ⟨⟨m + 1, .slice D12 ac.length e12, HLT.out, by rw [hw2], ⟨?_⟩, ⟨?_⟩, ⟨?_⟩⟩, by rw [hw2]; simp only [intOf, Int.toNat_natCast]; have h_ := HLT.out; omega⟩
      · rw [hE]
        exact Kd.R_mono (Kd.R_step (Kd.R_bound HO12.out) (fun k_ hk_ _ => Below.heap_setCell _ _ _ _ (by have h_ := hk_.2.1; simp; omega))) (fun _ _ => trivial)
      · refine blk_put (cs := #[.int .i64 q, v]) ?_ 1 _ rfl
        exact HB1.out
      · exact below_set ((below_drew1 HB.out).trans (Below.mono HB12.out (Nat.le_succ_of_le HG1.out))) HG1.out
    · have hmN : m = N := by omega
      obtain ⟨S, hS⟩ : ∃ S, S = holdsS l := ⟨_, rfl⟩
      have hN2 := HNS.out
      have hO := HO.out
      rw [hmN, hN2, List.take_length] at hO
      rw [← hS] at hO hN2
      have hA3 := A3.out
      have hA4 := A4.out
      rw [← hS] at hA3 hA4
      obtain ⟨Dv, ev, rfl⟩ := Kd.R_slice hO
      have HCS := Aside0.mk (frozen_read (Kd.R_reads' hO).2.2 HB.out)
      have HCL := Aside0.mk (Kd.R_reads' hO).2.1
      have HSL := Aside0.mk hS
      have hcond : (decide ((m : Int) < (l.length : Int)) = false ∧ ((m : Int) < (l.length : Int)) = False ∧ (m < l.length) = False) ∨ (decide ((m : Int) < (l.length : Int)) = true ∧ ((m : Int) < (l.length : Int)) = True ∧ (m < l.length) = True ∧ decide ((m : Int) < 12) = false ∧ ((m : Int) < 12) = False) := by
        have h_ := HN.out
        by_cases h1 : m < l.length
        · exact .inr ⟨decide_eq_true (by omega), eq_true (by omega), eq_true h1, decide_eq_false (by omega), eq_false (by omega)⟩
        · exact .inl ⟨decide_eq_false (by omega), eq_false (by omega), eq_false h1⟩
      clear hN2 hO hS A3 A4 HO hlt hm hmN HNS HN HB1 HB4 HD4
      by_cases hlen : 1 ≤ S.length ∧ S.length ≤ 8
      case neg =>
        rw [if_neg hlen] at hA4
        by_cases hbe : be = 9
        case neg => rw [if_neg hbe] at hA4; cases hA4
        subst hbe
        rw [if_pos rfl] at hA4
        have HR_ := Aside0.mk (Option.some.inj hA4)
        have A3 := Aside0.mk hA3
        have hcase : decide ((S.length : Int) < 1) = true ∨ (decide ((S.length : Int) < 1) = false ∧ decide (8 < (S.length : Int)) = true) := by
          by_cases h1 : S.length < 1
          · exact .inl (by simp; omega)
          · exact .inr ⟨by simp; omega, by simp; omega⟩
        clear hA3 hA4 hlen
        rcases hcond with ⟨hd1, hd3, hd4⟩ | ⟨hd1, hd3, hd4, hd2, hd5⟩
        all_goals
          rcases hcase with he1 | ⟨he1, he2⟩
        all_goals
          go_wp2_with (first
            | (go_at_call 10; go_loud (refine (segment_Seal.calls k q Dv ev S b 9 _ HCS.out HCL.out A3.out).mono ?_; rintro e w5 ⟨v5, rfl, ho5, hb5⟩; obtain ⟨D5, e5, rfl⟩ := Kd.R_slice ho5; have HB5 := Aside0.mk (below_step HB.out hb5); have HD5 := (hb5.block _ (blk_lt HBOX.out)).trans HBOX.out; have hq5 : w5.cell? ⟨gb, 1, none⟩ = some (.slice Dv S.length ev) := (blk_cell HD5 1).trans rfl; clear ho5 hb5 HD5))
            | (go_at_call 12; refine (undercroftlaw13_num.calls 9 9 _ rfl).mono ?_; rintro e w6 ⟨rfl, hd⟩; obtain ⟨nd, rfl⟩ := hd.out))
          go_ret
          exact ⟨by rw [← HR_.out]; rfl, pw_below_drewN HB5.out _⟩
      rw [if_pos hlen] at hA4
      obtain ⟨⟨s1, s2, s3⟩, h4, hA5⟩ := Option.bind_eq_some_iff.1 hA4
      simp only at hA5
      by_cases hok : (be = 0 ∧ s3 = 0 ∧ s1 = q ∧ s2.map key43 = S.map key43) ∧ (S.all fun y => undercroftplain_SameBytes.f k y.f2 y.f2 == some true) = true
      case neg => rw [if_neg hok] at hA5; cases hA5
      rw [if_pos hok] at hA5
      obtain ⟨⟨rfl, rfl, hs1, hs2⟩, hall⟩ := hok
      have hs2 := key43_inj hs2
      subst hs1 hs2
      have hr := Option.some.inj hA5
      subst hr
      have A3 := Aside0.mk hA3
      have A4 := Aside0.mk h4
      have AA := Aside0.mk hall
      have he1 : decide ((s2.length : Int) < 1) = false := by simp; omega
      have he2 : decide (8 < (s2.length : Int)) = false := by simp; omega
      have HLN := Aside0.mk hlen
      clear hA3 hA4 hlen hA5 hall h4
      rcases hcond with ⟨hd1, hd3, hd4⟩ | ⟨hd1, hd3, hd4, hd2, hd5⟩
      all_goals
        go_wp2_with (first
          | (go_at_call 10; go_loud (refine (segment_Seal.calls k s1 Dv ev s2 b 0 _ HCS.out HCL.out A3.out).mono ?_; rintro e w5 ⟨v5, rfl, ho5, hb5⟩; obtain ⟨D5, e5, rfl⟩ := Kd.R_slice ho5; have HB5 := Aside0.mk (below_step HB.out hb5); have HD5 := Aside0.mk ((hb5.block _ (blk_lt HBOX.out)).trans HBOX.out); have hq5 : w5.cell? ⟨gb, 1, none⟩ = some (.slice Dv s2.length ev) := (blk_cell HD5.out 1).trans rfl; have HC5 := Aside0.mk (Kd.C_below HCS.out hb5); have HR5 := Aside0.mk (Kd.R_reads' ho5); clear ho5 hb5))
          | (go_at_call 13; go_loud (refine (segment_Open.calls D5 e5 b s1 s2 0 _ HR5.out.2.2 HR5.out.2.1 A4.out).mono ?_; rintro e w7 ⟨v7, rfl, ho7, hb7⟩; obtain ⟨D7, e7, rfl⟩ := Kd.S_slice ho7; have HS7 := Aside0.mk (Kd.S_reads' ho7); have HB7 := Aside0.mk (below_step HB5.out hb7); have HD7 := Aside0.mk ((hb7.block _ (blk_lt HD5.out)).trans HD5.out); have HC7 := Aside0.mk (Kd.C_below HC5.out hb7); clear ho7 hb7 hq5 HD5 HC5 HR5))
          | ((with_reducible refine gate_dst (N := 9) rfl ?_); (try (refine gate_guard (by rfl) ?_; dsimp only)); refine box_event ?hg (N := 9) ?hd (cs := #[.int .i64 0, .slice none 0 0]) (t := 32) ?hr ?_; (case hd => rfl); (case hg => rfl); (case hr => first | (go_simp; done) | (go_simp; rfl)); intro gc hg w8 hbox hb; go_loud (have HGC := Aside0.mk hg; have HBX := Aside0.mk hb; have HBK := Aside0.mk hbox; clear hb hg hbox; have hcz0 : w8.cell? ⟨gc, 0, none⟩ = some (.int .i64 0) := (blk_cell HBK.out 0).trans rfl; have hcz1 : w8.cell? ⟨gc, 1, none⟩ = some (.slice none 0 0) := (blk_cell HBK.out 1).trans rfl; have hfz0 := blk_frozen HBK.out 0; have hfz1 := blk_frozen HBK.out 1))
          | (go_at_call 12; obtain ⟨w9, hw⟩ : ∃ W, W = (w8.setCell ⟨gc, 0, none⟩ (.int .i64 s1)).setCell ⟨gc, 1, none⟩ (.slice D7 s2.length e7) := ⟨_, rfl⟩; rw [← hw]; go_loud (have hb79 : Below w7.heap.size w7 w9 := (by rw [hw]; exact below_set (below_set HBX.out (Nat.le_of_eq HGC.out.symm)) (Nat.le_of_eq HGC.out.symm)); have HB9 := Aside0.mk (below_step HB7.out hb79); have HD9 : Aside0 (w9.heap[gc]? = some (.cells #[.int .i64 s1, .slice D7 s2.length e7] 32 (0, 0))) := ⟨by rw [hw]; refine blk_put (cs := #[.int .i64 s1, .slice none 0 0]) ?_ 1 _ rfl; refine blk_put (cs := #[.int .i64 0, .slice none 0 0]) ?_ 0 _ rfl; exact HBK.out⟩; have HG9 := Aside0.mk ((hb79.block _ (blk_lt HD7.out)).trans HD7.out); have HS9 := Aside0.mk (Kd.C_below HS7.out.2.2 hb79); have HC9 := Aside0.mk (Kd.C_below HC7.out hb79); have gq1 : w9.cell? ⟨gb, 1, none⟩ = some (.slice Dv s2.length ev) := (blk_cell HG9.out 1).trans rfl; have dq0 : w9.cell? ⟨gc, 0, none⟩ = some (.int .i64 s1) := (blk_cell HD9.out 0).trans rfl; have dq1 : w9.cell? ⟨gc, 1, none⟩ = some (.slice D7 s2.length e7) := (blk_cell HD9.out 1).trans rfl; clear hw hcz0 hcz1 hfz0 hfz1 hb79 HS7 HBX HBK HC7 HD7; refine (undercroftlaw13_num.calls 0 0 _ rfl).mono ?_; rintro e w11 ⟨rfl, hd11⟩; obtain ⟨nd11, rfl⟩ := hd11.out; clear hd11))
          | (go_at_call 12; refine (undercroftlaw13_num.calls 0 0 _ rfl).mono ?_; rintro e w12 ⟨rfl, hd12⟩; obtain ⟨nd12, rfl⟩ := hd12.out; clear hd12))
        clear hq0 hq1 hd1 hd3 hd4
        have HF2 : Aside0 (∀ W : World, Below w9.heap.size w9 W → W.cell? ⟨gc, 1, none⟩ = some (.slice D7 s2.length e7)) := ⟨fun W hb => pw_cell_below hb dq1⟩
        have HF1 : Aside0 (∀ W : World, Below w9.heap.size w9 W → W.cell? ⟨gb, 1, none⟩ = some (.slice Dv s2.length ev)) := ⟨fun W hb => pw_cell_below hb gq1⟩
        clear dq0 dq1 gq1
        go_loopw [11] (fun v11 W => ∃ i : Nat, i ≤ s2.length ∧ v11 = .int .i64 (i : Int) ∧ Aside0 (Below w9.heap.size w9 W)) (fun v11 _ => s2.length - (intOf v11).toNat)
        case atStart => exact ⟨0, Nat.zero_le _, rfl, ⟨pw_below_drewN (Below.refl _ _) _⟩⟩
        case round =>
          obtain ⟨i, hi, rfl, HBX⟩ := hrel
          have hr1 := HF2.out _ HBX.out
          have hr5 := HF1.out _ HBX.out
          by_cases hlt : i < s2.length
          · have hd6 : decide ((i : Int) < (s2.length : Int)) = true := decide_eq_true (by omega)
            have hi12 : i < 12 := by have h_ := HLN.out.2; omega
            obtain ⟨hz0, hz1, hz2⟩ := holdsS_at l i (by rw [← HSL.out]; exact hlt)
            rw [← HSL.out] at hz0 hz1 hz2
            have hsm : undercroftplain_SameBytes.f k (rd_T43 s2 (i : Int)).f2 (rd_T43 s2 (i : Int)).f2 = some true := eq_of_beq (List.all_eq_true.1 AA.out _ hz2)
            obtain ⟨ad, A2, c2, rfl, hr2, hr3, hr4, hyl, hyC⟩ := at_T43 HS9.out (i : Int) (by omega) (by omega)
            obtain ⟨bd, B2, d2, rfl, _, _, hr6, hul, huC⟩ := at_T43 HC9.out (i : Int) (by omega) (by omega)
            rw [Int.toNat_natCast] at hr2 hr3 hr4 hr6
            rw [hz0] at hr2
            rw [hz1] at hr3
            generalize (rd_T43 s2 (i : Int)).f2 = y at *
            have HALL : Aside0 (∀ W : World, Below w9.heap.size w9 W → W.cell? ⟨gc, 1, none⟩ = some (.slice (some ad) s2.length e7) ∧ W.cell? (ad.add (i * 3)) = some (.int .i64 (1 + (i : Int))) ∧ W.cell? ⟨(ad.add (i * 3)).block, (ad.add (i * 3)).off + 1, none⟩ = some (.int .i64 (i : Int)) ∧ W.cell? ⟨(ad.add (i * 3)).block, (ad.add (i * 3)).off + 2, none⟩ = some (.slice A2 y.length c2) ∧ W.cell? ⟨gb, 1, none⟩ = some (.slice (some bd) s2.length ev) ∧ W.cell? ⟨(bd.add (i * 3)).block, (bd.add (i * 3)).off + 2, none⟩ = some (.slice B2 y.length d2)) := ⟨fun W hb => ⟨HF2.out W hb, pw_cell_below hb hr2, pw_cell_below hb hr3, pw_cell_below hb hr4, HF1.out W hb, pw_cell_below hb hr6⟩⟩
            have HYA := Aside0.mk (Kd.C_below hyC HBX.out)
            have HYB := Aside0.mk (Kd.C_below huC HBX.out)
            have HYA2 := Aside0.mk hyl
            have HYB2 := Aside0.mk hul
            have HSAME := Aside0.mk hsm
            have hw1 : wrap64 (1 + (i : Int)) = 1 + (i : Int) := holds_w1 hi12
            have hw2 : wrap64 ((i : Int) + 1) = ((i + 1 : Nat) : Int) := holds_w2 hi12
            have p1 : (0 ≤ (i : Int)) = True := eq_true (Int.natCast_nonneg i)
            have p2 : ((i : Int) < (s2.length : Int)) = True := eq_true (Int.ofNat_lt.2 hlt)
            have p3 : (i < s2.length) = True := eq_true hlt
            have HLT := Aside0.mk hlt
            clear hr2 hr3 hr4 hr6 hyl hyC hul huC hsm hz0 hz1 hz2 hi12 hlt hi
            go_wp2_with fail
            refine start_ (n := 35) (S := fun w' => w'.cell? ⟨gc, 1, none⟩ = some (.slice (some ad) s2.length e7) ∧ w'.cell? (ad.add (i * 3)) = some (.int .i64 (1 + (i : Int))) ∧ w'.cell? ⟨(ad.add (i * 3)).block, (ad.add (i * 3)).off + 1, none⟩ = some (.int .i64 (i : Int)) ∧ w'.cell? ⟨(ad.add (i * 3)).block, (ad.add (i * 3)).off + 2, none⟩ = some (.slice A2 y.length c2) ∧ w'.cell? ⟨gb, 1, none⟩ = some (.slice (some bd) s2.length ev) ∧ w'.cell? ⟨(bd.add (i * 3)).block, (bd.add (i * 3)).off + 2, none⟩ = some (.slice B2 y.length d2)) (ds := []) #[false, false, false, false, false, false, false, false, false, false, false, false, false, false, false, false, false, false, false, false, false, false, false, false, false, false, false, false, false, false, false, false, false, false, false] (by kernel_rfl) rfl rfl (HALL.out wr HBX.out) (fun hHeld => ?_); refine with_tabW holds_tab18 holds_bits18 (fun HT_ HW_ => ?_)
            refine pure_ (i := 0) (N := some 107) (v := ?_) (a' := ?_) #[true, false, false, false, false, false, false, false, false, false, false, false, false, false, false, false, false, false, false, false, false, false, false, false, false, false, false, false, false, false, false, false, false, false, false] rfl rfl (any_of HT_.out (by kernel_rfl)) (fun _ _ _ h => h) (Or.inl ⟨by rfl, ?_⟩) ?_ ?_
            rotate_left
            · intro w'
              go_simp
              with_reducible rfl
            rotate_left
            · simp only [Act.put, List.setIfInBounds_toArray, List.set_cons_zero, List.set_cons_succ, i64_w, i32_w]
              rfl
            refine pure_ (i := 2) (N := some 109) (v := ?_) (a' := ?_) #[true, false, true, false, false, false, false, false, false, false, false, false, false, false, false, false, false, false, false, false, false, false, false, false, false, false, false, false, false, false, false, false, false, false, false] rfl rfl (any_of HT_.out (by kernel_rfl)) (fun _ _ _ h => h) (Or.inl ⟨by rfl, ?_⟩) ?_ ?_
            rotate_left
            · intro w'
              go_simp
              with_reducible rfl
            rotate_left
            · simp only [Act.put, List.setIfInBounds_toArray, List.set_cons_zero, List.set_cons_succ, i64_w, i32_w]
              rfl
            refine take_ (i := 1) (N := some 108) (v := ?_) (a' := ?_) #[true, true, true, false, false, false, false, false, false, false, false, false, false, false, false, false, false, false, false, false, false, false, false, false, false, false, false, false, false, false, false, false, false, false, false] rfl rfl (take_ofW HT_.out HW_.out (by kernel_rfl)) (fun _ _ _ h => h) (Or.inl ⟨by rfl, ?_⟩) hHeld ?_ ?_
            rotate_left
            · rintro w' ⟨s0, s1, s2, s3, s4, s5⟩
              go_simp
              with_reducible rfl
            rotate_left
            · simp only [Act.put, List.setIfInBounds_toArray, List.set_cons_zero, List.set_cons_succ, i64_w, i32_w]
              rfl
            refine pure_ (i := 3) (N := some 110) (v := ?_) (a' := ?_) #[true, true, true, true, false, false, false, false, false, false, false, false, false, false, false, false, false, false, false, false, false, false, false, false, false, false, false, false, false, false, false, false, false, false, false] rfl rfl (any_of HT_.out (by kernel_rfl)) (fun _ _ _ h => h) (Or.inl ⟨by rfl, ?_⟩) ?_ ?_
            rotate_left
            · intro w'
              go_simp
              with_reducible rfl
            rotate_left
            · simp only [Act.put, List.setIfInBounds_toArray, List.set_cons_zero, List.set_cons_succ, i64_w, i32_w]
              rfl
            refine pure_ (i := 4) (N := some 111) (v := ?_) (a' := ?_) #[true, true, true, true, true, false, false, false, false, false, false, false, false, false, false, false, false, false, false, false, false, false, false, false, false, false, false, false, false, false, false, false, false, false, false] rfl rfl (any_of HT_.out (by kernel_rfl)) (fun _ _ _ h => h) (Or.inl ⟨by rfl, ?_⟩) ?_ ?_
            rotate_left
            · intro w'
              go_simp
              with_reducible rfl
            rotate_left
            · simp only [Act.put, List.setIfInBounds_toArray, List.set_cons_zero, List.set_cons_succ, i64_w, i32_w]
              rfl
            refine take_ (i := 5) (N := some 112) (v := ?_) (a' := ?_) #[true, true, true, true, true, true, false, false, false, false, false, false, false, false, false, false, false, false, false, false, false, false, false, false, false, false, false, false, false, false, false, false, false, false, false] rfl rfl (take_ofW HT_.out HW_.out (by kernel_rfl)) (fun _ _ _ h => h) (Or.inl ⟨by rfl, ?_⟩) hHeld ?_ ?_
            rotate_left
            · rintro w' ⟨s0, s1, s2, s3, s4, s5⟩
              go_simp
              with_reducible rfl
            rotate_left
            · simp only [Act.put, List.setIfInBounds_toArray, List.set_cons_zero, List.set_cons_succ, i64_w, i32_w]
              rfl
            refine pure_ (i := 6) (N := some 113) (v := ?_) (a' := ?_) #[true, true, true, true, true, true, true, false, false, false, false, false, false, false, false, false, false, false, false, false, false, false, false, false, false, false, false, false, false, false, false, false, false, false, false] rfl rfl (any_of HT_.out (by kernel_rfl)) (fun _ _ _ h => h) (Or.inl ⟨by rfl, ?_⟩) ?_ ?_
            rotate_left
            · intro w'
              go_simp
              with_reducible rfl
            rotate_left
            · simp only [Act.put, List.setIfInBounds_toArray, List.set_cons_zero, List.set_cons_succ, i64_w, i32_w]
              rfl
            refine pure_ (i := 7) (N := some 114) (v := ?_) (a' := ?_) #[true, true, true, true, true, true, true, true, false, false, false, false, false, false, false, false, false, false, false, false, false, false, false, false, false, false, false, false, false, false, false, false, false, false, false] rfl rfl (any_of HT_.out (by kernel_rfl)) (fun _ _ _ h => h) (Or.inl ⟨by rfl, ?_⟩) ?_ ?_
            rotate_left
            · intro w'
              go_simp
              with_reducible rfl
            rotate_left
            · simp only [Act.put, List.setIfInBounds_toArray, List.set_cons_zero, List.set_cons_succ, i64_w, i32_w]
              rfl
            refine pure_ (i := 8) (N := some 115) (v := ?_) (a' := ?_) #[true, true, true, true, true, true, true, true, true, false, false, false, false, false, false, false, false, false, false, false, false, false, false, false, false, false, false, false, false, false, false, false, false, false, false] rfl rfl (any_of HT_.out (by kernel_rfl)) (fun _ _ _ h => h) (Or.inl ⟨by rfl, ?_⟩) ?_ ?_
            rotate_left
            · intro w'
              go_simp
              with_reducible rfl
            rotate_left
            · simp only [Act.put, List.setIfInBounds_toArray, List.set_cons_zero, List.set_cons_succ, i64_w, i32_w]
              rfl
            refine pure_ (i := 9) (N := some 116) (v := ?_) (a' := ?_) #[true, true, true, true, true, true, true, true, true, true, false, false, false, false, false, false, false, false, false, false, false, false, false, false, false, false, false, false, false, false, false, false, false, false, false] rfl rfl (any_of HT_.out (by kernel_rfl)) (fun _ _ _ h => h) (Or.inl ⟨by rfl, ?_⟩) ?_ ?_
            rotate_left
            · intro w'
              go_simp
              with_reducible rfl
            rotate_left
            · simp only [Act.put, List.setIfInBounds_toArray, List.set_cons_zero, List.set_cons_succ, i64_w, i32_w]
              rfl
            refine pure_ (i := 10) (N := some 117) (v := ?_) (a' := ?_) #[true, true, true, true, true, true, true, true, true, true, true, false, false, false, false, false, false, false, false, false, false, false, false, false, false, false, false, false, false, false, false, false, false, false, false] rfl rfl (any_of HT_.out (by kernel_rfl)) (fun _ _ _ h => h) (Or.inl ⟨by rfl, ?_⟩) ?_ ?_
            rotate_left
            · intro w'
              go_simp
              with_reducible rfl
            rotate_left
            · simp only [Act.put, List.setIfInBounds_toArray, List.set_cons_zero, List.set_cons_succ, i64_w, i32_w]
              rfl
            refine pure_ (i := 12) (N := some 119) (v := ?_) (a' := ?_) #[true, true, true, true, true, true, true, true, true, true, true, false, true, false, false, false, false, false, false, false, false, false, false, false, false, false, false, false, false, false, false, false, false, false, false] rfl rfl (any_of HT_.out (by kernel_rfl)) (fun _ _ _ h => h) (Or.inl ⟨by rfl, ?_⟩) ?_ ?_
            rotate_left
            · intro w'
              go_simp
              with_reducible rfl
            rotate_left
            · simp only [Act.put, List.setIfInBounds_toArray, List.set_cons_zero, List.set_cons_succ, i64_w, i32_w]
              rfl
            refine take_ (i := 11) (N := some 118) (v := ?_) (a' := ?_) #[true, true, true, true, true, true, true, true, true, true, true, true, true, false, false, false, false, false, false, false, false, false, false, false, false, false, false, false, false, false, false, false, false, false, false] rfl rfl (take_ofW HT_.out HW_.out (by kernel_rfl)) (fun _ _ _ h => h) (Or.inl ⟨by rfl, ?_⟩) hHeld ?_ ?_
            rotate_left
            · rintro w' ⟨s0, s1, s2, s3, s4, s5⟩
              go_simp
              with_reducible rfl
            rotate_left
            · simp only [Act.put, List.setIfInBounds_toArray, List.set_cons_zero, List.set_cons_succ, i64_w, i32_w]
              rfl
            refine pure_ (i := 13) (N := some 120) (v := ?_) (a' := ?_) #[true, true, true, true, true, true, true, true, true, true, true, true, true, true, false, false, false, false, false, false, false, false, false, false, false, false, false, false, false, false, false, false, false, false, false] rfl rfl (any_of HT_.out (by kernel_rfl)) (fun _ _ _ h => h) (Or.inl ⟨by rfl, ?_⟩) ?_ ?_
            rotate_left
            · intro w'
              go_simp
              with_reducible rfl
            rotate_left
            · simp only [Act.put, List.setIfInBounds_toArray, List.set_cons_zero, List.set_cons_succ, i64_w, i32_w]
              rfl
            refine pure_ (i := 14) (N := some 121) (v := ?_) (a' := ?_) #[true, true, true, true, true, true, true, true, true, true, true, true, true, true, true, false, false, false, false, false, false, false, false, false, false, false, false, false, false, false, false, false, false, false, false] rfl rfl (any_of HT_.out (by kernel_rfl)) (fun _ _ _ h => h) (Or.inl ⟨by rfl, ?_⟩) ?_ ?_
            rotate_left
            · intro w'
              go_simp
              with_reducible rfl
            rotate_left
            · simp only [Act.put, List.setIfInBounds_toArray, List.set_cons_zero, List.set_cons_succ, i64_w, i32_w]
              rfl
            refine take_ (i := 15) (N := some 122) (v := ?_) (a' := ?_) #[true, true, true, true, true, true, true, true, true, true, true, true, true, true, true, true, false, false, false, false, false, false, false, false, false, false, false, false, false, false, false, false, false, false, false] rfl rfl (take_ofW HT_.out HW_.out (by kernel_rfl)) (fun _ _ _ h => h) (Or.inl ⟨by rfl, ?_⟩) hHeld ?_ ?_
            rotate_left
            · rintro w' ⟨s0, s1, s2, s3, s4, s5⟩
              go_simp
              with_reducible rfl
            rotate_left
            · simp only [Act.put, List.setIfInBounds_toArray, List.set_cons_zero, List.set_cons_succ, i64_w, i32_w]
              rfl
            refine pure_ (i := 16) (N := some 123) (v := ?_) (a' := ?_) #[true, true, true, true, true, true, true, true, true, true, true, true, true, true, true, true, true, false, false, false, false, false, false, false, false, false, false, false, false, false, false, false, false, false, false] rfl rfl (any_of HT_.out (by kernel_rfl)) (fun _ _ _ h => h) (Or.inl ⟨by rfl, ?_⟩) ?_ ?_
            rotate_left
            · intro w'
              go_simp
              with_reducible rfl
            rotate_left
            · simp only [Act.put, List.setIfInBounds_toArray, List.set_cons_zero, List.set_cons_succ, i64_w, i32_w]
              rfl
            refine pure_ (i := 17) (N := some 124) (v := ?_) (a' := ?_) #[true, true, true, true, true, true, true, true, true, true, true, true, true, true, true, true, true, true, false, false, false, false, false, false, false, false, false, false, false, false, false, false, false, false, false] rfl rfl (any_of HT_.out (by kernel_rfl)) (fun _ _ _ h => h) (Or.inl ⟨by rfl, ?_⟩) ?_ ?_
            rotate_left
            · intro w'
              go_simp
              with_reducible rfl
            rotate_left
            · simp only [Act.put, List.setIfInBounds_toArray, List.set_cons_zero, List.set_cons_succ, i64_w, i32_w]
              rfl
            refine pure_ (i := 18) (N := some 125) (v := ?_) (a' := ?_) #[true, true, true, true, true, true, true, true, true, true, true, true, true, true, true, true, true, true, true, false, false, false, false, false, false, false, false, false, false, false, false, false, false, false, false] rfl rfl (any_of HT_.out (by kernel_rfl)) (fun _ _ _ h => h) (Or.inl ⟨by rfl, ?_⟩) ?_ ?_
            rotate_left
            · intro w'
              go_simp
              with_reducible rfl
            rotate_left
            · simp only [Act.put, List.setIfInBounds_toArray, List.set_cons_zero, List.set_cons_succ, i64_w, i32_w]
              rfl
            refine pure_ (i := 19) (N := some 126) (v := ?_) (a' := ?_) #[true, true, true, true, true, true, true, true, true, true, true, true, true, true, true, true, true, true, true, true, false, false, false, false, false, false, false, false, false, false, false, false, false, false, false] rfl rfl (any_of HT_.out (by kernel_rfl)) (fun _ _ _ h => h) (Or.inl ⟨by rfl, ?_⟩) ?_ ?_
            rotate_left
            · intro w'
              go_simp
              with_reducible rfl
            rotate_left
            · simp only [Act.put, List.setIfInBounds_toArray, List.set_cons_zero, List.set_cons_succ, i64_w, i32_w]
              rfl
            refine pure_ (i := 20) (N := some 127) (v := ?_) (a' := ?_) #[true, true, true, true, true, true, true, true, true, true, true, true, true, true, true, true, true, true, true, true, true, false, false, false, false, false, false, false, false, false, false, false, false, false, false] rfl rfl (any_of HT_.out (by kernel_rfl)) (fun _ _ _ h => h) (Or.inl ⟨by rfl, ?_⟩) ?_ ?_
            rotate_left
            · intro w'
              go_simp
              with_reducible rfl
            rotate_left
            · simp only [Act.put, List.setIfInBounds_toArray, List.set_cons_zero, List.set_cons_succ, i64_w, i32_w]
              rfl
            refine pure_ (i := 22) (N := some 129) (v := ?_) (a' := ?_) #[true, true, true, true, true, true, true, true, true, true, true, true, true, true, true, true, true, true, true, true, true, false, true, false, false, false, false, false, false, false, false, false, false, false, false] rfl rfl (any_of HT_.out (by kernel_rfl)) (fun _ _ _ h => h) (Or.inl ⟨by rfl, ?_⟩) ?_ ?_
            rotate_left
            · intro w'
              go_simp
              with_reducible rfl
            rotate_left
            · simp only [Act.put, List.setIfInBounds_toArray, List.set_cons_zero, List.set_cons_succ, i64_w, i32_w]
              rfl
            refine take_ (i := 21) (N := some 128) (v := ?_) (a' := ?_) #[true, true, true, true, true, true, true, true, true, true, true, true, true, true, true, true, true, true, true, true, true, true, true, false, false, false, false, false, false, false, false, false, false, false, false] rfl rfl (take_ofW HT_.out HW_.out (by kernel_rfl)) (fun _ _ _ h => h) (Or.inl ⟨by rfl, ?_⟩) hHeld ?_ ?_
            rotate_left
            · rintro w' ⟨s0, s1, s2, s3, s4, s5⟩
              go_simp
              with_reducible rfl
            rotate_left
            · simp only [Act.put, List.setIfInBounds_toArray, List.set_cons_zero, List.set_cons_succ, i64_w, i32_w]
              rfl
            refine pure_ (i := 23) (N := some 130) (v := ?_) (a' := ?_) #[true, true, true, true, true, true, true, true, true, true, true, true, true, true, true, true, true, true, true, true, true, true, true, true, false, false, false, false, false, false, false, false, false, false, false] rfl rfl (any_of HT_.out (by kernel_rfl)) (fun _ _ _ h => h) (Or.inl ⟨by rfl, ?_⟩) ?_ ?_
            rotate_left
            · intro w'
              go_simp
              with_reducible rfl
            rotate_left
            · simp only [Act.put, List.setIfInBounds_toArray, List.set_cons_zero, List.set_cons_succ, i64_w, i32_w]
              rfl
            refine pure_ (i := 24) (N := some 131) (v := ?_) (a' := ?_) #[true, true, true, true, true, true, true, true, true, true, true, true, true, true, true, true, true, true, true, true, true, true, true, true, true, false, false, false, false, false, false, false, false, false, false] rfl rfl (any_of HT_.out (by kernel_rfl)) (fun _ _ _ h => h) (Or.inl ⟨by rfl, ?_⟩) ?_ ?_
            rotate_left
            · intro w'
              go_simp
              with_reducible rfl
            rotate_left
            · simp only [Act.put, List.setIfInBounds_toArray, List.set_cons_zero, List.set_cons_succ, i64_w, i32_w]
              rfl
            refine take_ (i := 25) (N := some 132) (v := ?_) (a' := ?_) #[true, true, true, true, true, true, true, true, true, true, true, true, true, true, true, true, true, true, true, true, true, true, true, true, true, true, false, false, false, false, false, false, false, false, false] rfl rfl (take_ofW HT_.out HW_.out (by kernel_rfl)) (fun _ _ _ h => h) (Or.inl ⟨by rfl, ?_⟩) hHeld ?_ ?_
            rotate_left
            · rintro w' ⟨s0, s1, s2, s3, s4, s5⟩
              go_simp
              with_reducible rfl
            rotate_left
            · simp only [Act.put, List.setIfInBounds_toArray, List.set_cons_zero, List.set_cons_succ, i64_w, i32_w]
              rfl
            refine pure_ (i := 26) (N := some 133) (v := ?_) (a' := ?_) #[true, true, true, true, true, true, true, true, true, true, true, true, true, true, true, true, true, true, true, true, true, true, true, true, true, true, true, false, false, false, false, false, false, false, false] rfl rfl (any_of HT_.out (by kernel_rfl)) (fun _ _ _ h => h) (Or.inl ⟨by rfl, ?_⟩) ?_ ?_
            rotate_left
            · intro w'
              go_simp
              with_reducible rfl
            rotate_left
            · simp only [Act.put, List.setIfInBounds_toArray, List.set_cons_zero, List.set_cons_succ, i64_w, i32_w]
              rfl
            refine pure_ (i := 28) (N := some 135) (v := ?_) (a' := ?_) #[true, true, true, true, true, true, true, true, true, true, true, true, true, true, true, true, true, true, true, true, true, true, true, true, true, true, true, false, true, false, false, false, false, false, false] rfl rfl (any_of HT_.out (by kernel_rfl)) (fun _ _ _ h => h) (Or.inl ⟨by rfl, ?_⟩) ?_ ?_
            rotate_left
            · intro w'
              go_simp
              with_reducible rfl
            rotate_left
            · simp only [Act.put, List.setIfInBounds_toArray, List.set_cons_zero, List.set_cons_succ, i64_w, i32_w]
              rfl
            refine take_ (i := 27) (N := some 134) (v := ?_) (a' := ?_) #[true, true, true, true, true, true, true, true, true, true, true, true, true, true, true, true, true, true, true, true, true, true, true, true, true, true, true, true, true, false, false, false, false, false, false] rfl rfl (take_ofW HT_.out HW_.out (by kernel_rfl)) (fun _ _ _ h => h) (Or.inl ⟨by rfl, ?_⟩) hHeld ?_ ?_
            rotate_left
            · rintro w' ⟨s0, s1, s2, s3, s4, s5⟩
              go_simp
              with_reducible rfl
            rotate_left
            · simp only [Act.put, List.setIfInBounds_toArray, List.set_cons_zero, List.set_cons_succ, i64_w, i32_w]
              rfl
            refine pure_ (i := 29) (N := some 136) (v := ?_) (a' := ?_) #[true, true, true, true, true, true, true, true, true, true, true, true, true, true, true, true, true, true, true, true, true, true, true, true, true, true, true, true, true, true, false, false, false, false, false] rfl rfl (any_of HT_.out (by kernel_rfl)) (fun _ _ _ h => h) (Or.inl ⟨by rfl, ?_⟩) ?_ ?_
            rotate_left
            · intro w'
              go_simp
              with_reducible rfl
            rotate_left
            · simp only [Act.put, List.setIfInBounds_toArray, List.set_cons_zero, List.set_cons_succ, i64_w, i32_w]
              rfl
            refine pure_ (i := 30) (N := some 137) (v := ?_) (a' := ?_) #[true, true, true, true, true, true, true, true, true, true, true, true, true, true, true, true, true, true, true, true, true, true, true, true, true, true, true, true, true, true, true, false, false, false, false] rfl rfl (any_of HT_.out (by kernel_rfl)) (fun _ _ _ h => h) (Or.inl ⟨by rfl, ?_⟩) ?_ ?_
            rotate_left
            · intro w'
              go_simp
              with_reducible rfl
            rotate_left
            · simp only [Act.put, List.setIfInBounds_toArray, List.set_cons_zero, List.set_cons_succ, i64_w, i32_w]
              rfl
            refine take_ (i := 31) (N := some 138) (v := ?_) (a' := ?_) #[true, true, true, true, true, true, true, true, true, true, true, true, true, true, true, true, true, true, true, true, true, true, true, true, true, true, true, true, true, true, true, true, false, false, false] rfl rfl (take_ofW HT_.out HW_.out (by kernel_rfl)) (fun _ _ _ h => h) (Or.inl ⟨by rfl, ?_⟩) hHeld ?_ ?_
            rotate_left
            · rintro w' ⟨s0, s1, s2, s3, s4, s5⟩
              go_simp
              with_reducible rfl
            rotate_left
            · simp only [Act.put, List.setIfInBounds_toArray, List.set_cons_zero, List.set_cons_succ, i64_w, i32_w]
              rfl
            refine one_ (i := 32) (N := some 139) #[true, true, true, true, true, true, true, true, true, true, true, true, true, true, true, true, true, true, true, true, true, true, true, true, true, true, true, true, true, true, true, true, true, false, false] rfl rfl (one_of HT_.out (by kernel_rfl)) (by decide) (fun K hK => ?_)
            refine goes_ Tryd.func15 (by kernel_rfl) rfl #[.slice A2 y.length c2, .slice B2 y.length d2] (by rfl) rfl rfl (by (try simp only [List.map_toArray, List.map_cons, List.map_nil]); first | done | rfl) ?_
            refine (undercroftplain_SameBytes.calls k A2 c2 y B2 d2 y true _ (Kd.C_drew HYA.out) HYA2.out (Kd.C_drew HYB.out) HYB2.out HSAME.out).mono ?_
            rintro e_ w20 ⟨rfl, hb⟩
            refine ⟨_, rfl, ?_⟩
            have HB20 : Aside0 (Below w9.heap.size w9 w20) := ⟨by obtain ⟨nd, rfl⟩ := hb.out; exact pw_below_drewN (below_drew1 HBX.out) nd⟩
            clear hb
            refine hK.out _ _ (HALL.out _ HB20.out) (fun hHeld => ?_)
            clear hK K
            refine norm_ (a' := ?_) ?_ ?_
            rotate_left
            · show Act.put _ (some 139) _ = _
              simp only [Act.put, List.setIfInBounds_toArray, List.set_cons_zero, List.set_cons_succ, i64_w, i32_w]
              rfl
            refine pure_ (i := 33) (N := some 140) (v := ?_) (a' := ?_) #[true, true, true, true, true, true, true, true, true, true, true, true, true, true, true, true, true, true, true, true, true, true, true, true, true, true, true, true, true, true, true, true, true, true, false] rfl rfl (any_of HT_.out (by kernel_rfl)) (fun _ _ _ h => h) (Or.inl ⟨by rfl, ?_⟩) ?_ ?_
            rotate_left
            · intro w'
              go_simp
              with_reducible rfl
            rotate_left
            · simp only [Act.put, List.setIfInBounds_toArray, List.set_cons_zero, List.set_cons_succ, i64_w, i32_w]
              rfl
            refine pure_ (i := 34) (N := some 141) (v := ?_) (a' := ?_) #[true, true, true, true, true, true, true, true, true, true, true, true, true, true, true, true, true, true, true, true, true, true, true, true, true, true, true, true, true, true, true, true, true, true, true] rfl rfl (any_of HT_.out (by kernel_rfl)) (fun _ _ _ h => h) (Or.inl ⟨by rfl, ?_⟩) ?_ ?_
            rotate_left
            · intro w'
              go_simp
              with_reducible rfl
            rotate_left
            · simp only [Act.put, List.setIfInBounds_toArray, List.set_cons_zero, List.set_cons_succ, i64_w, i32_w]
              rfl
            refine done_ (done_of HT_.out (by kernel_rfl)) ?_
            go_wp2
            refine ⟨⟨i + 1, HLT.out, by rw [hw2], HB20⟩, by rw [hw2]; simp only [intOf, Int.toNat_natCast]; have h_ := HLT.out; omega⟩
          · have hd6 : decide ((i : Int) < (s2.length : Int)) = false := decide_eq_false (by omega)
            go_wp2
            go_ret
            exact ⟨rfl, below_step HB9.out HBX.out⟩

end Go.Proofs.YtokjiinlhghggaaDoor.PHol
