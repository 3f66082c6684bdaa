-- Written by a program of this session (gen.py).
import Derived.Test.YtkcianklokikoaaDoorPWirx0
import Derived.Test.YtkcianklokikoaaDoorPWirx1
import Derived.Test.YtkcianklokikoaaDoorPWirx2
import Derived.Test.YtkcianklokikoaaDoorPWirx3
import Derived.Test.YtkcianklokikoaaDoorPWirx4
import Derived.Test.YtkcianklokikoaaDoorPWirx5
namespace Go.Proofs.YtkcianklokikoaaDoor.PWir
open Go.RowKit Go.Proofs.YtkcianklokikoaaDoorW.PrintWords Go.Proofs.YtkcianklokikoaaDoorW.PrintLast Go.Proofs.YtkcianklokikoaaDoorW.PrintMore
open Go.Proofs.YtkcianklokikoaaDoor.Own
attribute [local go_sem high] unary_not_u32 unary_not_u64 unary_not_u8 string_leq_ string_gtr_
attribute [local go_sem] max2_int min2_int max_two min_two max_three min_three max_four min_four   -- for this text's walks alone
set_option linter.unusedVariables false
set_option linter.unusedSimpArgs false

/-! ### undercroftlaw05_WireOwn: function 8 -/
theorem own_gap5 {W : World} {base g n cap i : Nat} {okw : Nat → Prop} {xs : List (List Int)} (h : Kd.S (Kd.slice 5 (Kd.int .u8)) 23 W base okw (.slice (some ⟨g, 0, none⟩) n cap) xs) (hi : i < xs.length) :
    ∃ (oki : Nat → Prop) (v2 : Value), W.cell? ⟨g, i, none⟩ = some v2 ∧ (∀ k, oki k → okw k ∧ k ≠ g) ∧ (Kd.int .u8).R 5 W base oki v2 xs[i] ∧ Kd.H (Kd.slice 5 (Kd.int .u8)) 23 W base okw (.slice (some ⟨g, 0, none⟩) n cap) xs (i : Int) oki [v2] := by
  have hn : n = xs.length := (Kd.S_reads' h).1
  obtain ⟨oki, c, hcl, hM, hcc, hfr, hoki, hH⟩ := Kd.S_elem h ([] : List Int) (i : Int) (by omega) (by omega)
  rw [Int.toNat_natCast] at hM hcc hfr
  have e : xs.getD i [] = xs[i] := by rw [List.getD_eq_getElem?_getD, List.getElem?_eq_getElem hi]; rfl
  rw [e] at hM
  obtain ⟨v2, rfl, hR⟩ := hM
  have hx := hcc 0 v2 rfl
  have hs : i * (Kd.slice 5 (Kd.int .u8)).sz + 0 = i := by show i * 1 + 0 = i; omega
  rw [hs] at hx
  exact ⟨oki, v2, hx, hoki, hR, hH⟩
theorem own_back5 {W W1 : World} {base g n cap i : Nat} {okw oki : Nat → Prop} {xs : List (List Int)} {v2 : Value} {x2 r : List Int} (hH : Kd.H (Kd.slice 5 (Kd.int .u8)) 23 W base okw (.slice (some ⟨g, 0, none⟩) n cap) xs (i : Int) oki [v2]) (hR : (Kd.int .u8).R 5 W base oki v2 x2) (hk : Kept W W1 oki) {ok' : Nat → Prop} (hR1 : (Kd.int .u8).R 5 W1 base ok' v2 r) :
    Kd.S (Kd.slice 5 (Kd.int .u8)) 23 W1 base okw (.slice (some ⟨g, 0, none⟩) n cap) (xs.set i r) := by
  have h1 : (Kd.int .u8).R 5 W1 base oki v2 r := Kd.R_mono (Kd.R_tight rfl hR1) (fun k hk => hR.1 k hk.symm)
  have h2 := Kd.H_back (Kd.H_kept hH hk (fun k _ h _ => h ‹_›)) (x' := r) (Kd.M_row h1) (fun _ h => h)
  rw [Int.toNat_natCast] at h2
  exact h2
def undercroftlaw05_WireOwn.f (k : Nat) (a : Int) (l1 : List Int) (l2 : List (List Int)) : Option Bool := (undercroftlaw05_alive.f k).bind fun t => if t = true then ((undercroftlaw05_of.f k a l1 l2).bind fun x => (wire_Encode.f k x.1 x.2.1 x.2.2).bind fun b => if b.2 = 0 then (if (x.2.2.all fun y => (undercroftplain_Spoil.f k y).isSome) = true ∧ x.2.2.length ≤ 4611686018427387904 then (wire_Decode.f k b.1).bind fun s => (undercroftplain_Spoil.f k b.1).bind fun _ => if s.2.2.2 = 0 then (undercroftlaw05_same.f k s.1 s.2.1 s.2.2.1 a l1 l2).bind fun t => some t else none else none) else some ((b.1.length : Int) == 0)) else none
theorem undercroftlaw05_WireOwn.mono : ∀ a0 a1 a2 k, LeO (undercroftlaw05_WireOwn.f k a0 a1 a2) (undercroftlaw05_WireOwn.f (k + 1) a0 a1 a2) := by
  intro a0 a1 a2 k
  unfold undercroftlaw05_WireOwn.f
  refine LeO.bind (undercroftlaw05_alive.mono k) (fun _ => LeO.ite (LeO.bind (undercroftlaw05_of.mono _ _ _ k) (fun tl => LeO.bind (wire_Encode.mono _ _ _ k) (fun b => LeO.ite ?_ (LeO.refl _)))) (LeO.refl _))
  by_cases h : (tl.2.2.all fun x => (undercroftplain_Spoil.f k x).isSome) = true ∧ tl.2.2.length ≤ 4611686018427387904
  · have h' : (tl.2.2.all fun x => (undercroftplain_Spoil.f (k + 1) x).isSome) = true ∧ tl.2.2.length ≤ 4611686018427387904 := ⟨by
      rw [List.all_eq_true] at *
      intro x hx
      obtain ⟨r, hr⟩ := Option.isSome_iff_exists.1 (h.1 x hx)
      rw [undercroftplain_Spoil.mono _ k r hr]; rfl, h.2⟩
    rw [if_pos h, if_pos h']
    exact LeO.bind (wire_Decode.mono _ k) (fun _ => LeO.bind (undercroftplain_Spoil.mono _ k) (fun _ => LeO.ite (LeO.bind (undercroftlaw05_same.mono _ _ _ _ _ _ k) (fun _ => LeO.refl _)) (LeO.refl _)))
  · rw [if_neg h]
    exact LeO.none _
set_option maxHeartbeats 8000000 in
set_option maxRecDepth 100000 in
theorem undercroftlaw05_WireOwn.calls (k : Nat) (a : Int) (A1 : Option Addr) (c1 : Nat) (l1 : List Int) (A2 : Option Addr) (c2 : Nat) (l2 : List (List Int)) (r : Bool) (w : World) (hr1 : Kd.C (Kd.int .i64) w A1 l1.length l1) (hc1 : l1.length ≤ c1) (hr2 : Kd.C (Kd.slice 5 (Kd.int .u8)) w A2 l2.length l2) (hc2 : l2.length ≤ c2) (h : undercroftlaw05_WireOwn.f k a l1 l2 = some r) :
    Calls Tryd.prog 8 #[.agg #[.int .i64 a, .slice A1 l1.length c1, .slice A2 l2.length c2]] w fun e w' => e = .returned (.bool r) ∧ Below w.heap.size w w' := by
  have HRW1 := Aside0.mk hr1
  have HC1 := Aside0.mk hc1
  have HRW2 := Aside0.mk hr2
  have HC2 := Aside0.mk hc2
  have HB0 := Aside0.mk (below_alloc (Below.refl w.heap.size w) (.cells #[.int .i64 a, .slice A1 l1.length c1, .slice A2 l2.length c2] 42))
  have HG0 := Aside0.mk (heap_alloc_new w (.cells #[.int .i64 a, .slice A1 l1.length c1, .slice A2 l2.length c2] 42))
  have hsz : (w.alloc (.cells #[.int .i64 a, .slice A1 l1.length c1, .slice A2 l2.length c2] 42)).heap.size = w.heap.size + 1 := by simp
  unfold undercroftlaw05_WireOwn.f at h
  obtain ⟨t, h1, g1⟩ := Option.bind_eq_some_iff.1 h
  by_cases ht : t = true
  case neg => rw [if_neg ht] at g1; cases g1
  subst ht
  rw [if_pos rfl] at g1
  obtain ⟨⟨kk, nl, tl⟩, h2, g2⟩ := Option.bind_eq_some_iff.1 g1
  obtain ⟨⟨b, be⟩, h3, g3⟩ := Option.bind_eq_some_iff.1 g2
  have A1_ := Aside0.mk h1
  have A2_ := Aside0.mk h2
  have A3 := Aside0.mk h3
  simp only at g3
  clear h g1 g2 h1 h2 h3 hr1 hc1 hr2 hc2
  have hu42 := Tryd.underlying42
  have hu44 := Tryd.underlying44
  go_enter Tryd.func8, Tryd.ntmps8
  by_cases hbe : be = 0
  case neg =>
    rw [if_neg hbe] at g3
    have hr := Option.some.inj g3
    have HR_ := Aside0.mk hr
    have hbe' : (be != 0) = true := bne_iff_ne.2 hbe
    have hbe2 : (be == 0) = false := beq_eq_false_iff_ne.2 hbe
    clear g3 hr
    go_wp2_with (first
      | (go_at_call 18; go_loud (refine (undercroftlaw05_alive.calls k true _ A1_.out).mono ?_; rintro e w1 ⟨rfl, hb1⟩; have HB1 := Aside0.mk (below_step HB0.out hb1); have HG1 : Aside0 (w1.heap[w.heap.size]? = some (.cells #[.int .i64 a, .slice A1 l1.length c1, .slice A2 l2.length c2] 42 (0, 0))) := ⟨(hb1.block w.heap.size (by omega)).trans HG0.out⟩; have HZ1 : Aside0 (w.heap.size < w1.heap.size) := ⟨by have h_ := hb1.size; omega⟩; have gc0 := (blk_cell HG1.out 0).trans rfl; have gc1 := (blk_cell HG1.out 1).trans rfl; have gc2 := (blk_cell HG1.out 2).trans rfl; clear hb1 HB0 HG0 hsz))
      | (go_at_call 20; go_loud (refine (undercroftlaw05_of.calls k a A1 c1 l1 A2 c2 l2 kk nl tl _ (Kd.C_below HRW1.out HB1.out) HC1.out (Kd.C_below HRW2.out HB1.out) HC2.out A2_.out).mono ?_; rintro e w2 ⟨v1, v2, rfl, ho1, ho2, hb2⟩; obtain ⟨D8, e8, rfl⟩ := Kd.R_slice ho1; obtain ⟨D9, e9, rfl⟩ := Kd.S_slice ho2; have HN2 := Aside0.mk ho1; have HS2 := Aside0.mk ho2; have HB2 := Aside0.mk hb2; clear ho1 ho2 hb2 gc0 gc1 gc2))
      | ((with_reducible refine gate_dst (N := 3) rfl ?_); (try (refine gate_guard (by rfl) ?_; dsimp only)); refine box_event ?hg (N := 3) ?hd (cs := #[.int .i64 0, .slice none 0 0, .slice none 0 0]) (t := 44) ?hr ?_; (case hd => rfl); (case hg => rfl); (case hr => first | (go_simp; done) | (go_simp; rfl)); intro gb hg w3 hbox hb; go_loud (have HG := Aside0.mk hg; have HBX := Aside0.mk hb; have HBK := Aside0.mk hbox; clear hb hg hbox; have hcz0 : w3.cell? ⟨gb, 0, none⟩ = some (.int .i64 0) := (blk_cell HBK.out 0).trans rfl; have hcz1 : w3.cell? ⟨gb, 1, none⟩ = some (.slice none 0 0) := (blk_cell HBK.out 1).trans rfl; have hcz2 : w3.cell? ⟨gb, 2, none⟩ = some (.slice none 0 0) := (blk_cell HBK.out 2).trans rfl; have hfz0 := blk_frozen HBK.out 0; have hfz1 := blk_frozen HBK.out 1; have hfz2 := blk_frozen HBK.out 2))
      | ((with_reducible refine gate_store (t := 44) (p := 3) rfl ?_); refine store_event (t := 44) (p := 3) (v := ?vo_w21) (w1 := (((w3.setCell ⟨gb, 0, none⟩ (.int .i64 kk)).setCell ⟨gb, 1, none⟩ (.slice D8 nl.length e8)).setCell ⟨gb, 2, none⟩ (.slice D9 tl.length e9))) ?hg ?ho ?hn ?hr ?_; (case ho => rfl); (case hg => rfl); (case hn => rfl); (case hr => first | (go_simp; done) | (go_simp; rfl)); intro w4 hw; go_loud (have hb24 : Below w2.heap.size w2 w4 := (by rw [hw]; exact ((HBX.out.setCell (p := ⟨gb, 0, none⟩) (Nat.le_of_eq HG.out.symm) _).setCell (p := ⟨gb, 1, none⟩) (Nat.le_of_eq HG.out.symm) _).setCell (p := ⟨gb, 2, none⟩) (Nat.le_of_eq HG.out.symm) _); have HB4 := Aside0.mk (below_step (below_step HB1.out HB2.out) hb24); have HD4 : Aside0 (w4.heap[gb]? = some (.cells #[.int .i64 kk, .slice D8 nl.length e8, .slice D9 tl.length e9] 44 (0, 0))) := ⟨by rw [hw]; exact blk_put (blk_put (blk_put HBK.out 0 _ rfl) 1 _ rfl) 2 _ rfl⟩; have HG4 : Aside0 (w4.heap[w.heap.size]? = some (.cells #[.int .i64 a, .slice A1 l1.length c1, .slice A2 l2.length c2] 42 (0, 0))) := ⟨(hb24.block _ (Nat.lt_of_lt_of_le HZ1.out HB2.out.size)).trans ((HB2.out.block _ HZ1.out).trans HG1.out)⟩; have HN4 := Aside0.mk (Kd.R_below HN2.out hb24); have HS4 := Aside0.mk (Kd.S_mono (ok' := fun k_ => w1.heap.size ≤ k_ ∧ k_ < w2.heap.size) (Kd.S_lower (Kd.S_below (Kd.S_bound HS2.out) hb24) (Nat.le_of_lt HZ1.out)) (fun k_ hk_ => ⟨hk_.2.1, hk_.2.2.1⟩)); have HGG : Aside0 (gb = w2.heap.size) := ⟨HG.out⟩; have hq0 : w4.cell? ⟨gb, 0, none⟩ = some (.int .i64 kk) := (blk_cell HD4.out 0).trans rfl; have hq1 : w4.cell? ⟨gb, 1, none⟩ = some (.slice D8 nl.length e8) := (blk_cell HD4.out 1).trans rfl; have hq2 : w4.cell? ⟨gb, 2, none⟩ = some (.slice D9 tl.length e9) := (blk_cell HD4.out 2).trans rfl; clear hw hcz0 hcz1 hcz2 hfz0 hfz1 hfz2 hb24 HS2 HN2 HBX HBK))
      | (go_at_call 19; go_loud (refine (wire_Encode.calls k kk D8 e8 nl D9 e9 tl b be _ (Kd.R_reads' HN4.out).2.2 (Kd.R_reads' HN4.out).2.1 (Kd.S_reads' HS4.out).2.2 (Kd.S_reads' HS4.out).2.1 A3.out).mono ?_; rintro e w5 ⟨v5, rfl, ho5, hb5⟩; obtain ⟨D5, e5, rfl⟩ := Kd.R_slice ho5; have HO5 := Aside0.mk (Kd.R_mono (ok' := fun k_ => w4.heap.size ≤ k_) (Kd.R_bound ho5) (fun k_ hk_ => hk_.2.1)); have HB5 := Aside0.mk (below_step HB4.out hb5); have HS5 := Aside0.mk (Kd.S_mono (ok' := fun k_ => w1.heap.size ≤ k_ ∧ k_ < w2.heap.size) (Kd.S_below HS4.out hb5) (fun _ h_ => h_)); have HG5 := Aside0.mk ((hb5.block _ (blk_lt HG4.out)).trans HG4.out); have HD5 := Aside0.mk ((hb5.block _ (blk_lt HD4.out)).trans HD4.out); have hZ45 := Aside0.mk (blk_lt HD4.out); have HZ5 := Aside0.mk hb5.size; clear ho5 hb5 hq0 hq1 hq2))
      | (go_at_call 16; refine (undercroftlaw05_num.calls be be _ rfl).mono ?_; rintro e w6 ⟨rfl, hd⟩; obtain ⟨nd, rfl⟩ := hd.out))
    go_ret
    exact ⟨by rw [← HR_.out]; rfl, pw_below_drewN HB5.out _⟩
  subst hbe
  rw [if_pos rfl] at g3
  by_cases ha : (tl.all fun y => (undercroftplain_Spoil.f k y).isSome) = true ∧ tl.length ≤ 4611686018427387904
  case neg => rw [if_neg ha] at g3; cases g3
  rw [if_pos ha] at g3
  obtain ⟨⟨s1, s2, s3, s4⟩, h4, g4⟩ := Option.bind_eq_some_iff.1 g3
  obtain ⟨sp, h5, g5⟩ := Option.bind_eq_some_iff.1 g4
  simp only at g5 h4 h5
  by_cases hs3 : s4 = 0
  case neg => rw [if_neg hs3] at g5; cases g5
  subst hs3
  rw [if_pos rfl] at g5
  obtain ⟨al, h6, g6⟩ := Option.bind_eq_some_iff.1 g5
  have hr := Option.some.inj g6
  have A4 := Aside0.mk h4
  have A5 := Aside0.mk h5
  have A6 := Aside0.mk h6
  have AA := Aside0.mk ha.1
  have HLT := Aside0.mk ha.2
  have HR_ := Aside0.mk hr
  clear g3 g4 g5 g6 h4 h5 h6 ha hr
  go_wp2_with (first
    | (go_at_call 18; go_loud (refine (undercroftlaw05_alive.calls k true _ A1_.out).mono ?_; rintro e w1 ⟨rfl, hb1⟩; have HB1 := Aside0.mk (below_step HB0.out hb1); have HG1 : Aside0 (w1.heap[w.heap.size]? = some (.cells #[.int .i64 a, .slice A1 l1.length c1, .slice A2 l2.length c2] 42 (0, 0))) := ⟨(hb1.block w.heap.size (by omega)).trans HG0.out⟩; have HZ1 : Aside0 (w.heap.size < w1.heap.size) := ⟨by have h_ := hb1.size; omega⟩; have gc0 := (blk_cell HG1.out 0).trans rfl; have gc1 := (blk_cell HG1.out 1).trans rfl; have gc2 := (blk_cell HG1.out 2).trans rfl; clear hb1 HB0 HG0 hsz))
    | (go_at_call 20; go_loud (refine (undercroftlaw05_of.calls k a A1 c1 l1 A2 c2 l2 kk nl tl _ (Kd.C_below HRW1.out HB1.out) HC1.out (Kd.C_below HRW2.out HB1.out) HC2.out A2_.out).mono ?_; rintro e w2 ⟨v1, v2, rfl, ho1, ho2, hb2⟩; obtain ⟨D8, e8, rfl⟩ := Kd.R_slice ho1; obtain ⟨D9, e9, rfl⟩ := Kd.S_slice ho2; have HN2 := Aside0.mk ho1; have HS2 := Aside0.mk ho2; have HB2 := Aside0.mk hb2; clear ho1 ho2 hb2 gc0 gc1 gc2))
    | ((with_reducible refine gate_dst (N := 3) rfl ?_); (try (refine gate_guard (by rfl) ?_; dsimp only)); refine box_event ?hg (N := 3) ?hd (cs := #[.int .i64 0, .slice none 0 0, .slice none 0 0]) (t := 44) ?hr ?_; (case hd => rfl); (case hg => rfl); (case hr => first | (go_simp; done) | (go_simp; rfl)); intro gb hg w3 hbox hb; go_loud (have HG := Aside0.mk hg; have HBX := Aside0.mk hb; have HBK := Aside0.mk hbox; clear hb hg hbox; have hcz0 : w3.cell? ⟨gb, 0, none⟩ = some (.int .i64 0) := (blk_cell HBK.out 0).trans rfl; have hcz1 : w3.cell? ⟨gb, 1, none⟩ = some (.slice none 0 0) := (blk_cell HBK.out 1).trans rfl; have hcz2 : w3.cell? ⟨gb, 2, none⟩ = some (.slice none 0 0) := (blk_cell HBK.out 2).trans rfl; have hfz0 := blk_frozen HBK.out 0; have hfz1 := blk_frozen HBK.out 1; have hfz2 := blk_frozen HBK.out 2))
    | ((with_reducible refine gate_store (t := 44) (p := 3) rfl ?_); refine store_event (t := 44) (p := 3) (v := ?vo_w21) (w1 := (((w3.setCell ⟨gb, 0, none⟩ (.int .i64 kk)).setCell ⟨gb, 1, none⟩ (.slice D8 nl.length e8)).setCell ⟨gb, 2, none⟩ (.slice D9 tl.length e9))) ?hg ?ho ?hn ?hr ?_; (case ho => rfl); (case hg => rfl); (case hn => rfl); (case hr => first | (go_simp; done) | (go_simp; rfl)); intro w4 hw; go_loud (have hb24 : Below w2.heap.size w2 w4 := (by rw [hw]; exact ((HBX.out.setCell (p := ⟨gb, 0, none⟩) (Nat.le_of_eq HG.out.symm) _).setCell (p := ⟨gb, 1, none⟩) (Nat.le_of_eq HG.out.symm) _).setCell (p := ⟨gb, 2, none⟩) (Nat.le_of_eq HG.out.symm) _); have HB4 := Aside0.mk (below_step (below_step HB1.out HB2.out) hb24); have HD4 : Aside0 (w4.heap[gb]? = some (.cells #[.int .i64 kk, .slice D8 nl.length e8, .slice D9 tl.length e9] 44 (0, 0))) := ⟨by rw [hw]; exact blk_put (blk_put (blk_put HBK.out 0 _ rfl) 1 _ rfl) 2 _ rfl⟩; have HG4 : Aside0 (w4.heap[w.heap.size]? = some (.cells #[.int .i64 a, .slice A1 l1.length c1, .slice A2 l2.length c2] 42 (0, 0))) := ⟨(hb24.block _ (Nat.lt_of_lt_of_le HZ1.out HB2.out.size)).trans ((HB2.out.block _ HZ1.out).trans HG1.out)⟩; have HN4 := Aside0.mk (Kd.R_below HN2.out hb24); have HS4 := Aside0.mk (Kd.S_mono (ok' := fun k_ => w1.heap.size ≤ k_ ∧ k_ < w2.heap.size) (Kd.S_lower (Kd.S_below (Kd.S_bound HS2.out) hb24) (Nat.le_of_lt HZ1.out)) (fun k_ hk_ => ⟨hk_.2.1, hk_.2.2.1⟩)); have HGG : Aside0 (gb = w2.heap.size) := ⟨HG.out⟩; have hq0 : w4.cell? ⟨gb, 0, none⟩ = some (.int .i64 kk) := (blk_cell HD4.out 0).trans rfl; have hq1 : w4.cell? ⟨gb, 1, none⟩ = some (.slice D8 nl.length e8) := (blk_cell HD4.out 1).trans rfl; have hq2 : w4.cell? ⟨gb, 2, none⟩ = some (.slice D9 tl.length e9) := (blk_cell HD4.out 2).trans rfl; clear hw hcz0 hcz1 hcz2 hfz0 hfz1 hfz2 hb24 HS2 HN2 HBX HBK))
    | (go_at_call 19; go_loud (refine (wire_Encode.calls k kk D8 e8 nl D9 e9 tl b 0 _ (Kd.R_reads' HN4.out).2.2 (Kd.R_reads' HN4.out).2.1 (Kd.S_reads' HS4.out).2.2 (Kd.S_reads' HS4.out).2.1 A3.out).mono ?_; rintro e w5 ⟨v5, rfl, ho5, hb5⟩; obtain ⟨D5, e5, rfl⟩ := Kd.R_slice ho5; have HO5 := Aside0.mk (Kd.R_mono (ok' := fun k_ => w4.heap.size ≤ k_) (Kd.R_bound ho5) (fun k_ hk_ => hk_.2.1)); have HB5 := Aside0.mk (below_step HB4.out hb5); have HS5 := Aside0.mk (Kd.S_mono (ok' := fun k_ => w1.heap.size ≤ k_ ∧ k_ < w2.heap.size) (Kd.S_below HS4.out hb5) (fun _ h_ => h_)); have HG5 := Aside0.mk ((hb5.block _ (blk_lt HG4.out)).trans HG4.out); have HD5 := Aside0.mk ((hb5.block _ (blk_lt HD4.out)).trans HD4.out); have hZ45 := Aside0.mk (blk_lt HD4.out); have HZ5 := Aside0.mk hb5.size; clear ho5 hb5 hq0 hq1 hq2))
    | (go_at_call 16; refine (undercroftlaw05_num.calls 0 0 _ rfl).mono ?_; rintro e w6 ⟨rfl, hd⟩; obtain ⟨nd, rfl⟩ := hd.out))
  have hz24 : w2.heap.size < w4.heap.size := by have h_ := hZ45.out; rw [HGG.out] at h_; exact h_
  have hz1 := HZ1.out
  have hz12 : w1.heap.size ≤ w2.heap.size := HB2.out.size
  have hz45 : w4.heap.size ≤ w5.heap.size := HZ5.out
  have hz04 : w.heap.size ≤ w4.heap.size := by omega
  obtain ⟨W5, hW5⟩ : ∃ W, W = w5.drewN nd := ⟨_, rfl⟩
  have HSW := Aside0.mk (show Kd.S (Kd.slice 5 (Kd.int .u8)) 23 W5 w.heap.size (fun k_ => w1.heap.size ≤ k_ ∧ k_ < w2.heap.size) (.slice D9 tl.length e9) tl from by rw [hW5]; exact Kd.S_drewN HS5.out nd)
  have HOW := Aside0.mk (show Kd.R (Kd.int .u8) 5 W5 w4.heap.size (fun k_ => w4.heap.size ≤ k_) (.slice D5 b.length e5) b from by rw [hW5]; exact Kd.R_drewN HO5.out nd)
  have HDW := Aside0.mk (show W5.heap[gb]? = some (.cells #[.int .i64 kk, .slice D8 nl.length e8, .slice D9 tl.length e9] 44 (0, 0)) from by rw [hW5]; exact blk_drewN HD5.out nd)
  have HGW := Aside0.mk (show W5.heap[w.heap.size]? = some (.cells #[.int .i64 a, .slice A1 l1.length c1, .slice A2 l2.length c2] 42 (0, 0)) from by rw [hW5]; exact blk_drewN HG5.out nd)
  have HBW := Aside0.mk (show Below w.heap.size w W5 from by rw [hW5]; exact pw_below_drewN HB5.out nd)
  rw [← hW5]
  have HGE := Aside0.mk HGG.out
  clear hW5 HS5 HO5 HD5 HG5 HB5 HG4 HD4 HS4 HN4 HB4 HG1 hd A1_ A2_ A3 hZ45 HZ5 HGG HG HB2 HB1 HZ1
  obtain ⟨N, hN⟩ : ∃ N, N = tl.length := ⟨_, rfl⟩
  have HN := Aside0.mk hN
  have hN63 : N ≤ 4611686018427387904 := by rw [hN]; exact HLT.out
  rw [← hN]
  rw [← hN] at HSW HDW
  clear hN
  go_loopw [6] (fun v6 W => ∃ (j : Nat) (xs : List (List Int)), j ≤ N ∧ v6 = .int .i64 (j : Int) ∧ Aside0 (xs.length = N) ∧ Aside0 (xs.drop j = tl.drop j) ∧ Aside0 (Kd.S (Kd.slice 5 (Kd.int .u8)) 23 W w.heap.size (fun k_ => w1.heap.size ≤ k_ ∧ k_ < w2.heap.size) (.slice D9 N e9) xs) ∧ Aside0 (Kept W5 W (fun k_ => w1.heap.size ≤ k_ ∧ k_ < w2.heap.size)) ∧ Aside0 (W.heap[gb]? = some (.cells #[.int .i64 kk, .slice D8 nl.length e8, .slice D9 N e9] 44 (0, 0))) ∧ Aside0 (Below w.heap.size w W)) (fun v6 _ => N - (intOf v6).toNat)
  case atStart => exact ⟨0, tl, Nat.zero_le _, rfl, ⟨HN.out.symm⟩, ⟨rfl⟩, HSW, ⟨Kept.refl _ _⟩, HDW, HBW⟩
  case round =>
    obtain ⟨j, xs, hm, rfl, HXL, HXD, HW, HK, HGB, HBw⟩ := hrel
    have hq1 : wr.cell? ⟨gb, 2, none⟩ = some (.slice D9 N e9) := (blk_cell HGB.out 2).trans rfl
    by_cases hlt : j < N
    · have hd : decide ((j : Int) < (N : Int)) = true := by simp; omega
      have hmL : j < xs.length := by have := HXL.out; omega
      obtain ⟨g, cap, he, hg1, hg2, cells, hgc⟩ := Kd.S_form HW.out (by omega)
      injection he with he1 he2 he3
      clear he2
      subst he1 he3
      clear hgc hg2 hg1
      obtain ⟨oki, v2, hx2, hoki, hR2, hH⟩ := own_gap5 HW.out hmL
      have hsp : ∃ r2, undercroftplain_Spoil.f k xs[j] = some r2 := by
        have h1 : tl[j]? = xs[j]? := by
          have h2 := congrArg (fun l => l[0]?) HXD.out
          simpa [List.getElem?_drop] using h2.symm
        have h3 : xs[j] ∈ tl := by
          rw [List.getElem?_eq_getElem hmL] at h1
          exact List.mem_of_getElem? h1
        exact Option.isSome_iff_exists.1 (List.all_eq_true.1 AA.out _ h3)
      obtain ⟨r2, hr2⟩ := hsp
      have HSP := Aside0.mk hr2
      have HR2 := Aside0.mk hR2
      have HH := Aside0.mk hH
      have HOK := Aside0.mk hoki
      clear hr2 hR2 hH hoki
      have HX := Aside0.mk (show (xs.set j r2).length = xs.length from List.length_set)
      generalize hx : xs[j] = x at *
      clear hx
      go_wp2_with (first
        | (go_at_call 23; refine (undercroftplain_Spoil.calls k oki v2 x r2 w _ HBw.out HR2.out HSP.out).mono ?_; rintro e w7 ⟨rfl, hr7, hb7, hk7⟩; go_loud (have HS7 := Aside0.mk (own_back5 HH.out HR2.out hk7 hr7); have HB7 := Aside0.mk hb7; have HK7 := Aside0.mk (HK.out.then_ hk7 (fun k_ hk_ => .inl (HOK.out k_ hk_).1)); have HG7 := Aside0.mk (blk_kept HGB.out hk7 (fun h_ => by have h1_ := (HOK.out _ h_).1.2; have h2_ := HGE.out; omega)); clear hr7 hb7 hk7)))
      have hw : wrap64 ((j : Int) + 1) = ((j + 1 : Nat) : Int) := by unfold wrap64; omega
      refine ⟨⟨j + 1, xs.set j r2, hlt, by simp, ⟨by rw [List.length_set]; exact HXL.out⟩, ⟨?_⟩, HS7, HK7, HG7, HB7⟩, by simp only [intOf]; omega⟩
      rw [List.drop_set, if_pos (by omega), ← List.drop_drop, HXD.out, List.drop_drop]
    · have hmN : j = N := by omega
      have hd : decide ((j : Int) < (N : Int)) = false := by simp; omega
      obtain rfl := hmN
      have HOR := Aside0.mk (Kd.R_kept HOW.out HK.out (fun k_ h1_ h2_ => by omega))
      have HG0 := Aside0.mk (blk_kept HGW.out HK.out (fun h_ => by omega))
      have hq := HK.out.1
      have HWS := Aside0.mk hq
      have HB5 := Aside0.mk (Kd.R_base HOR.out)
      have HL5 := Aside0.mk (Kd.R_lt HOR.out)
      have HC5 := Aside0.mk (Kd.R_reads' HOR.out)
      have HZW := Aside0.mk (blk_lt HG0.out)
      go_wp2_with (first
        | (go_at_call 21; go_loud (refine (wire_Decode.calls k D5 e5 b s1 s2 s3 0 _ HC5.out.2.2 HC5.out.2.1 A4.out).mono ?_; rintro e w7 ⟨v7, v8, rfl, hn7, ho7, hb7⟩; obtain ⟨D6, e6, rfl⟩ := Kd.R_slice hn7; obtain ⟨D7, e7, rfl⟩ := Kd.S_slice ho7; have HN7 := Aside0.mk (Kd.R_bound hn7); have HS7 := Aside0.mk (Kd.S_bound ho7); have HB7 := Aside0.mk hb7; have HT7 := Aside0.mk (below_step HBw.out hb7); have HG7 := Aside0.mk ((hb7.block _ HZW.out).trans HG0.out); have HO7 := Aside0.mk (Kd.R_below HOR.out hb7); clear hn7 ho7 hb7 hq1))
        | ((with_reducible refine gate_dst (N := 7) rfl ?_); (try (refine gate_guard (by rfl) ?_; dsimp only)); refine box_event ?hg (N := 7) ?hd (cs := #[.int .i64 0, .slice none 0 0, .slice none 0 0]) (t := 44) ?hr ?_; (case hd => rfl); (case hg => rfl); (case hr => first | (go_simp; done) | (go_simp; rfl)); intro gc hg w8 hbox hb; go_loud (have HGC := Aside0.mk hg; have HBX := Aside0.mk hb; have HBK := Aside0.mk hbox; clear hb hg hbox; have hcz0 : w8.cell? ⟨gc, 0, none⟩ = some (.int .i64 0) := (blk_cell HBK.out 0).trans rfl; have hcz1 : w8.cell? ⟨gc, 1, none⟩ = some (.slice none 0 0) := (blk_cell HBK.out 1).trans rfl; have hcz2 : w8.cell? ⟨gc, 2, none⟩ = some (.slice none 0 0) := (blk_cell HBK.out 2).trans rfl; have hfz0 := blk_frozen HBK.out 0; have hfz1 := blk_frozen HBK.out 1; have hfz2 := blk_frozen HBK.out 2))
        | (go_at_call 23; go_loud (obtain ⟨w9, hw⟩ : ∃ W, W = ((w8.setCell ⟨gc, 0, none⟩ (.int .i64 s1)).setCell ⟨gc, 1, none⟩ (.slice D6 s2.length e6)).setCell ⟨gc, 2, none⟩ (.slice D7 s3.length e7) := ⟨_, rfl⟩; rw [← hw]; have hb79 : Below w7.heap.size w7 w9 := (by rw [hw]; exact ((HBX.out.setCell (p := ⟨gc, 0, none⟩) (Nat.le_of_eq HGC.out.symm) _).setCell (p := ⟨gc, 1, none⟩) (Nat.le_of_eq HGC.out.symm) _).setCell (p := ⟨gc, 2, none⟩) (Nat.le_of_eq HGC.out.symm) _); have HB9 := Aside0.mk (below_step HT7.out hb79); have HD9 : Aside0 (w9.heap[gc]? = some (.cells #[.int .i64 s1, .slice D6 s2.length e6, .slice D7 s3.length e7] 44 (0, 0))) := ⟨by rw [hw]; exact blk_put (blk_put (blk_put HBK.out 0 _ rfl) 1 _ rfl) 2 _ rfl⟩; have HG9 := Aside0.mk ((hb79.block _ (blk_lt HG7.out)).trans HG7.out); have HN9 := Aside0.mk (Kd.R_mono (ok' := fun k_ => wr.heap.size ≤ k_) (Kd.R_below HN7.out hb79) (fun k_ hk_ => hk_.2.1)); have HS9 := Aside0.mk (Kd.S_mono (ok' := fun k_ => wr.heap.size ≤ k_) (Kd.S_below HS7.out hb79) (fun k_ hk_ => hk_.2.1)); have HO9 := Aside0.mk (Kd.R_below HO7.out hb79); have HZ9 := Aside0.mk hb79.size; clear hw hcz0 hcz1 hcz2 hfz0 hfz1 hfz2 hb79 HS7 HN7 HBX HBK HO7 HG7; refine (undercroftplain_Spoil.calls k (fun k_ => some k_ = (Value.slice D5 b.length e5).ownBlock) (Value.slice D5 b.length e5) b sp w _ HB9.out (Kd.R_lower (Kd.R_tight rfl HO9.out) (by omega)) A5.out).mono ?_; rintro e w10 ⟨rfl, _, hb10, hk10⟩; have HB10 := Aside0.mk hb10; have HG10 := Aside0.mk (blk_kept HG9.out hk10 (fun h_ => by have h1_ := HB5.out _ h_.symm; omega)); have HD10 := Aside0.mk (blk_kept HD9.out hk10 (fun h_ => by have h1_ := HL5.out _ h_.symm; have h2_ := HGC.out; have h3_ := HB7.out.size; omega)); have HN10 := Aside0.mk (Kd.R_kept HN9.out hk10 (fun k_ h1_ h2_ => by have h3_ := HL5.out _ h2_.symm; omega)); have HS10 := Aside0.mk (Kd.S_kept HS9.out hk10 (fun k_ h1_ h2_ => by have h3_ := HL5.out _ h2_.symm; omega)); have gq0 := (blk_cell HG10.out 0).trans rfl; have gq1 := (blk_cell HG10.out 1).trans rfl; have gq2 := (blk_cell HG10.out 2).trans rfl; have dq0 := (blk_cell HD10.out 0).trans rfl; have dq1 := (blk_cell HD10.out 1).trans rfl; have dq2 := (blk_cell HD10.out 2).trans rfl; clear hb10 hk10))
        | (go_at_call 16; refine (undercroftlaw05_num.calls 0 0 _ rfl).mono ?_; rintro e w11 ⟨rfl, hd11⟩; obtain ⟨nd11, rfl⟩ := hd11.out)
        | (go_at_call 22; go_loud (refine (undercroftlaw05_same.calls k s1 D6 e6 s2 D7 e7 s3 a A1 c1 l1 A2 c2 l2 al _ (Kd.C_drewN (Kd.R_reads' HN10.out).2.2 _) (Kd.R_reads' HN10.out).2.1 (Kd.C_drewN (Kd.S_reads' HS10.out).2.2 _) (Kd.S_reads' HS10.out).2.1 (Kd.C_drewN (Kd.C_below HRW1.out HB10.out) _) HC1.out (Kd.C_drewN (Kd.C_below HRW2.out HB10.out) _) HC2.out A6.out).mono ?_; rintro e w12 ⟨rfl, hb12⟩; have HB12 := Aside0.mk (below_step (pw_below_drewN HB10.out _) hb12); clear hb12)))
      go_ret
      exact ⟨by rw [← HR_.out]; rfl, HB12.out⟩

/-! ### undercroftlaw05_WireNumbers: function 6 -/
def undercroftlaw05_WireNumbers.j0 : Nat → Int → Int → List Int → List Int → Bool → Option (Bool)
  | 0, _, _, _, _, _ => none
  | k + 1, x0, x1, x5, x7, x54 => if x54 = true then (some false) else (if x0 ≥ 0 then (if x1 ≥ 0 then (if x0 ≤ x1 then (some (decide ((x5.length : Int) ≤ (x7.length : Int)))) else (if x0 < 0 then (if x1 < 0 then (if x0 ≥ x1 then (some (decide ((x5.length : Int) ≤ (x7.length : Int)))) else (some true)) else (some true)) else (some true))) else (if x0 < 0 then (if x1 < 0 then (if x0 ≥ x1 then (some (decide ((x5.length : Int) ≤ (x7.length : Int)))) else (some true)) else (some true)) else (some true))) else (if x0 < 0 then (if x1 < 0 then (if x0 ≥ x1 then (some (decide ((x5.length : Int) ≤ (x7.length : Int)))) else (some true)) else (some true)) else (some true)))
def undercroftlaw05_WireNumbers.f (k : Nat) (a0 : Int) (a1 : Int) : Option (Bool) := (undercroftlaw05_alive.f k).bind fun t233 => (if t233 = true then ((wire_Encode.f k 0 (([a0] : List Int)) ([] : List (List Int))).bind fun bt237 => ((wire_Encode.f k 0 (([a1] : List Int)) ([] : List (List Int))).bind fun bt244 => ((wire_Decode.f k bt237.1).bind fun bt248 => ((undercroftlaw05_num.f bt237.2).bind fun t257 => ((undercroftlaw05_num.f bt244.2).bind fun t258 => ((undercroftlaw05_num.f bt248.2.2.2).bind fun t259 => (if (wrap64 ((wrap64 (t257 + t258)) + t259)) = 0 then (if (bt248.2.1.length : Int) = 1 then (if 0 < (bt248.2.1.length : Int) then (undercroftlaw05_WireNumbers.j0 k a0 a1 bt237.1 bt244.1 ((rd bt248.2.1 0) != a0)) else (none)) else (undercroftlaw05_WireNumbers.j0 k a0 a1 bt237.1 bt244.1 true)) else (undercroftlaw05_WireNumbers.j0 k a0 a1 bt237.1 bt244.1 true)))))))) else (some false))
theorem undercroftlaw05_WireNumbers.mono_l : ∀ k, (∀ y0 y1 y2 y3 y4, LeO (undercroftlaw05_WireNumbers.j0 k y0 y1 y2 y3 y4) (undercroftlaw05_WireNumbers.j0 (k + 1) y0 y1 y2 y3 y4))
  | 0 => fun _ _ _ _ _ r h => by simp [undercroftlaw05_WireNumbers.j0] at h
  | k + 1 => by
    have ih0 := undercroftlaw05_WireNumbers.mono_l k
    · intro y0 y1 y2 y3 y4
      unfold undercroftlaw05_WireNumbers.j0
      repeat' first
      | (with_reducible exact ih0 _ _ _ _ _)
      | (with_reducible exact undercroftlaw05_alive.mono _)
      | (with_reducible exact wire_Decode.mono _ _)
      | (with_reducible exact wire_Encode.mono _ _ _ _)
      | (with_reducible exact LeO.refl _)
      | (with_reducible exact LeO.none _)
      | (with_reducible refine LeO.ite ?_ ?_)
      | (with_reducible refine LeO.bind ?_ (fun _ => ?_))
      | exact ih0 _ _ _ _ _
      | exact undercroftlaw05_alive.mono _
      | exact wire_Decode.mono _ _
      | exact wire_Encode.mono _ _ _ _
      | exact LeO.none _
      | refine LeO.ite ?_ ?_
      | refine LeO.bind ?_ (fun _ => ?_)
theorem undercroftlaw05_WireNumbers.mono : ∀ a0 a1 k, LeO (undercroftlaw05_WireNumbers.f k a0 a1) (undercroftlaw05_WireNumbers.f (k + 1) a0 a1) := by
  intro a0 a1 k
  have ih0 := undercroftlaw05_WireNumbers.mono_l k
  unfold undercroftlaw05_WireNumbers.f
  repeat' first
      | (with_reducible exact ih0 _ _ _ _ _)
      | (with_reducible exact undercroftlaw05_alive.mono _)
      | (with_reducible exact wire_Decode.mono _ _)
      | (with_reducible exact wire_Encode.mono _ _ _ _)
      | (with_reducible exact LeO.refl _)
      | (with_reducible exact LeO.none _)
      | (with_reducible refine LeO.ite ?_ ?_)
      | (with_reducible refine LeO.bind ?_ (fun _ => ?_))
      | exact ih0 _ _ _ _ _
      | exact undercroftlaw05_alive.mono _
      | exact wire_Decode.mono _ _
      | exact wire_Encode.mono _ _ _ _
      | exact LeO.none _
      | refine LeO.ite ?_ ?_
      | refine LeO.bind ?_ (fun _ => ?_)
set_option maxHeartbeats 8000000 in
set_option maxRecDepth 100000 in
theorem undercroftlaw05_WireNumbers.calls (k : Nat) (a0 : Int) (a1 : Int) (r : Bool) (w : World) (h : undercroftlaw05_WireNumbers.f k a0 a1 = some r) :
    Calls Tryd.prog 6 #[.int .i64 a0, .int .i64 a1] w fun e w' => e = .returned (.bool r) ∧ Below w.heap.size w w' := by
  have hu44 := Tryd.underlying44
  have HB := Aside0.mk (Below.refl w.heap.size w)
  have H : ((undercroftlaw05_alive.f k).bind fun t233 => (if t233 = true then ((wire_Encode.f k 0 (([a0] : List Int)) ([] : List (List Int))).bind fun bt237 => ((wire_Encode.f k 0 (([a1] : List Int)) ([] : List (List Int))).bind fun bt244 => ((wire_Decode.f k bt237.1).bind fun bt248 => ((undercroftlaw05_num.f bt237.2).bind fun t257 => ((undercroftlaw05_num.f bt244.2).bind fun t258 => ((undercroftlaw05_num.f bt248.2.2.2).bind fun t259 => (if (wrap64 ((wrap64 (t257 + t258)) + t259)) = 0 then (if (bt248.2.1.length : Int) = 1 then (if 0 < (bt248.2.1.length : Int) then (undercroftlaw05_WireNumbers.j0 k a0 a1 bt237.1 bt244.1 ((rd bt248.2.1 0) != a0)) else (none)) else (undercroftlaw05_WireNumbers.j0 k a0 a1 bt237.1 bt244.1 true)) else (undercroftlaw05_WireNumbers.j0 k a0 a1 bt237.1 bt244.1 true)))))))) else (some false))) = some r := h
  clear h
  replace H := Option.bind_eq_some_iff.mp H
  obtain ⟨t233, A30, H⟩ := H
  replace H : (if t233 = true then ((wire_Encode.f k 0 (([a0] : List Int)) ([] : List (List Int))).bind fun bt237 => ((wire_Encode.f k 0 (([a1] : List Int)) ([] : List (List Int))).bind fun bt244 => ((wire_Decode.f k bt237.1).bind fun bt248 => ((undercroftlaw05_num.f bt237.2).bind fun t257 => ((undercroftlaw05_num.f bt244.2).bind fun t258 => ((undercroftlaw05_num.f bt248.2.2.2).bind fun t259 => (if (wrap64 ((wrap64 (t257 + t258)) + t259)) = 0 then (if (bt248.2.1.length : Int) = 1 then (if 0 < (bt248.2.1.length : Int) then (undercroftlaw05_WireNumbers.j0 k a0 a1 bt237.1 bt244.1 ((rd bt248.2.1 0) != a0)) else (none)) else (undercroftlaw05_WireNumbers.j0 k a0 a1 bt237.1 bt244.1 true)) else (undercroftlaw05_WireNumbers.j0 k a0 a1 bt237.1 bt244.1 true)))))))) else (some false)) = some r := H
  have A3 := Aside0.mk A30
  clear A30
  by_cases c4 : t233 = true
  · subst c4
    have H1 : ((wire_Encode.f k 0 (([a0] : List Int)) ([] : List (List Int))).bind fun bt237 => ((wire_Encode.f k 0 (([a1] : List Int)) ([] : List (List Int))).bind fun bt244 => ((wire_Decode.f k bt237.1).bind fun bt248 => ((undercroftlaw05_num.f bt237.2).bind fun t257 => ((undercroftlaw05_num.f bt244.2).bind fun t258 => ((undercroftlaw05_num.f bt248.2.2.2).bind fun t259 => (if (wrap64 ((wrap64 (t257 + t258)) + t259)) = 0 then (if (bt248.2.1.length : Int) = 1 then (if 0 < (bt248.2.1.length : Int) then (undercroftlaw05_WireNumbers.j0 k a0 a1 bt237.1 bt244.1 ((rd bt248.2.1 0) != a0)) else (none)) else (undercroftlaw05_WireNumbers.j0 k a0 a1 bt237.1 bt244.1 true)) else (undercroftlaw05_WireNumbers.j0 k a0 a1 bt237.1 bt244.1 true)))))))) = some r := by rw [if_pos rfl] at H; exact H
    clear H
    have H := H1
    clear H1
    obtain ⟨y234, hy234⟩ : ∃ y_ : List Int, y_ = (([a0] : List Int)) := ⟨_, rfl⟩
    replace H : ((wire_Encode.f k 0 y234 ([] : List (List Int))).bind fun bt237 => ((wire_Encode.f k 0 (([a1] : List Int)) ([] : List (List Int))).bind fun bt244 => ((wire_Decode.f k bt237.1).bind fun bt248 => ((undercroftlaw05_num.f bt237.2).bind fun t257 => ((undercroftlaw05_num.f bt244.2).bind fun t258 => ((undercroftlaw05_num.f bt248.2.2.2).bind fun t259 => (if (wrap64 ((wrap64 (t257 + t258)) + t259)) = 0 then (if (bt248.2.1.length : Int) = 1 then (if 0 < (bt248.2.1.length : Int) then (undercroftlaw05_WireNumbers.j0 k a0 a1 bt237.1 bt244.1 ((rd bt248.2.1 0) != a0)) else (none)) else (undercroftlaw05_WireNumbers.j0 k a0 a1 bt237.1 bt244.1 true)) else (undercroftlaw05_WireNumbers.j0 k a0 a1 bt237.1 bt244.1 true)))))))) = some r := by first | (rw [hy234]; with_reducible exact H) | (have H2_ := (Option.bind_some _ _).symm.trans H; rw [hy234]; with_reducible exact H2_) | (have H2_ := (Option.bind_some _ _).symm.trans H; with_reducible exact H2_) | with_reducible exact H | (rw [hy234]; exact H) | exact H
    have Ny234 := Aside0.mk hy234
    clear hy234
    replace H := Option.bind_eq_some_iff.mp H
    obtain ⟨⟨t237, t240⟩, A50, H⟩ := H
    replace H : ((wire_Encode.f k 0 (([a1] : List Int)) ([] : List (List Int))).bind fun bt244 => ((wire_Decode.f k t237).bind fun bt248 => ((undercroftlaw05_num.f t240).bind fun t257 => ((undercroftlaw05_num.f bt244.2).bind fun t258 => ((undercroftlaw05_num.f bt248.2.2.2).bind fun t259 => (if (wrap64 ((wrap64 (t257 + t258)) + t259)) = 0 then (if (bt248.2.1.length : Int) = 1 then (if 0 < (bt248.2.1.length : Int) then (undercroftlaw05_WireNumbers.j0 k a0 a1 t237 bt244.1 ((rd bt248.2.1 0) != a0)) else (none)) else (undercroftlaw05_WireNumbers.j0 k a0 a1 t237 bt244.1 true)) else (undercroftlaw05_WireNumbers.j0 k a0 a1 t237 bt244.1 true))))))) = some r := H
    have A5 := Aside0.mk A50
    clear A50
    obtain ⟨y241, hy241⟩ : ∃ y_ : List Int, y_ = (([a1] : List Int)) := ⟨_, rfl⟩
    replace H : ((wire_Encode.f k 0 y241 ([] : List (List Int))).bind fun bt244 => ((wire_Decode.f k t237).bind fun bt248 => ((undercroftlaw05_num.f t240).bind fun t257 => ((undercroftlaw05_num.f bt244.2).bind fun t258 => ((undercroftlaw05_num.f bt248.2.2.2).bind fun t259 => (if (wrap64 ((wrap64 (t257 + t258)) + t259)) = 0 then (if (bt248.2.1.length : Int) = 1 then (if 0 < (bt248.2.1.length : Int) then (undercroftlaw05_WireNumbers.j0 k a0 a1 t237 bt244.1 ((rd bt248.2.1 0) != a0)) else (none)) else (undercroftlaw05_WireNumbers.j0 k a0 a1 t237 bt244.1 true)) else (undercroftlaw05_WireNumbers.j0 k a0 a1 t237 bt244.1 true))))))) = some r := by first | (rw [hy241]; with_reducible exact H) | (have H2_ := (Option.bind_some _ _).symm.trans H; rw [hy241]; with_reducible exact H2_) | (have H2_ := (Option.bind_some _ _).symm.trans H; with_reducible exact H2_) | with_reducible exact H | (rw [hy241]; exact H) | exact H
    have Ny241 := Aside0.mk hy241
    clear hy241
    replace H := Option.bind_eq_some_iff.mp H
    obtain ⟨⟨t244, t247⟩, A60, H⟩ := H
    replace H : ((wire_Decode.f k t237).bind fun bt248 => ((undercroftlaw05_num.f t240).bind fun t257 => ((undercroftlaw05_num.f t247).bind fun t258 => ((undercroftlaw05_num.f bt248.2.2.2).bind fun t259 => (if (wrap64 ((wrap64 (t257 + t258)) + t259)) = 0 then (if (bt248.2.1.length : Int) = 1 then (if 0 < (bt248.2.1.length : Int) then (undercroftlaw05_WireNumbers.j0 k a0 a1 t237 t244 ((rd bt248.2.1 0) != a0)) else (none)) else (undercroftlaw05_WireNumbers.j0 k a0 a1 t237 t244 true)) else (undercroftlaw05_WireNumbers.j0 k a0 a1 t237 t244 true)))))) = some r := H
    have A6 := Aside0.mk A60
    clear A60
    replace H := Option.bind_eq_some_iff.mp H
    obtain ⟨⟨t248, t249, t252, t255⟩, A70, H⟩ := H
    replace H : ((undercroftlaw05_num.f t240).bind fun t257 => ((undercroftlaw05_num.f t247).bind fun t258 => ((undercroftlaw05_num.f t255).bind fun t259 => (if (wrap64 ((wrap64 (t257 + t258)) + t259)) = 0 then (if (t249.length : Int) = 1 then (if 0 < (t249.length : Int) then (undercroftlaw05_WireNumbers.j0 k a0 a1 t237 t244 ((rd t249 0) != a0)) else (none)) else (undercroftlaw05_WireNumbers.j0 k a0 a1 t237 t244 true)) else (undercroftlaw05_WireNumbers.j0 k a0 a1 t237 t244 true))))) = some r := H
    have A7 := Aside0.mk A70
    clear A70
    have HC8 := Aside0.mk H
    clear H
    go_enter Tryd.func6, Tryd.ntmps6
    go_upto_region 6 with (first | ((with_reducible refine gate_callee (f := 18) rfl ?_); refine goesL_ (some 11) rfl rfl Tryd.func18 (by kernel_rfl) rfl #[] rfl (by (try simp only [List.map_toArray, List.map_cons, List.map_nil]); first | done | rfl | (simp only [List.length_drop, List.length_take]; rfl)) ?_; (with_reducible refine (undercroftlaw05_alive.calls k  true _ A3.out).mono ?_); rintro e w9 ⟨rfl, hb⟩; refine ⟨_, rfl, ?_⟩; have n0_ := Aside0.mk (below_step (by repeat (first | (with_reducible first | exact HB.out | apply below_alloc | apply pw_below_drewN | apply below_drew1) | exact HB.out)) hb); clear HB; have HB := n0_; clear n0_; (try clear hb); (try clear hb2); (try clear hk); (try clear hi)) | ((with_reducible refine gate_dst (N := 15) rfl ?_); (try (refine gate_guard (by rfl) ?_; dsimp only)); refine Kd.R_lit (Kd.int .i64) _ 3 ?hg (N := 15) ?hd (xs := ([a0] : List Int)) (inner := [.int .i64 a0]) (ok := fun _ => True) (okp := fun _ => True) ?hr ?hp (fun _ hk => hk) trivial (Below.refl _ _) (Nat.le_refl _) (by simp) ?_; (case hd => rfl); (case hg => rfl); (case hr => first | (go_simp; done) | (go_simp; rfl)); (case hp => exact (Reps.one (show Kd.M (Kd.int .i64) _ _ _ a0 [.int .i64 a0] from rfl) (Reps.none _ _))); intro v235 w10 ho11 hb hg_ hnew_; clear hg_ hnew_; (first | rw [← Ny234.out] at ho11 | (simp only [Int.reduceToNat] at ho11; rw [← Ny234.out] at ho11)); have n0_ := Aside0.mk (Kd.R_lower ho11 (below_size (by repeat (first | (with_reducible first | exact HB.out | apply below_alloc | apply pw_below_drewN | apply below_drew1) | exact HB.out)))); have n1_ := Aside0.mk (below_step (by repeat (first | (with_reducible first | exact HB.out | apply below_alloc | apply pw_below_drewN | apply below_drew1) | exact HB.out)) hb); clear HB; have HO236 := n0_; have HB := n1_; clear n0_ n1_; clear hb ho11; obtain ⟨Ao12, co12, eo12⟩ := Kd.R_slice HO236.out; subst eo12) | ((with_reducible refine gate_callee (f := 19) rfl ?_); refine goesL_ (some 17) rfl rfl Tryd.func19 (by kernel_rfl) rfl #[.agg #[.int .i64 0, .slice Ao12 y234.length co12, .slice none 0 0]] rfl (by (try simp only [List.map_toArray, List.map_cons, List.map_nil]); first | done | rfl | (simp only [List.length_drop, List.length_take]; rfl)) ?_; (refine (wire_Encode.calls k 0 _ _ y234 _ _ ([] : List (List Int)) t237 t240 _ ?side1 ?side2 ?side3 ?side4 A5.out).mono ?_); (case side1 => repeat (first | exact (Kd.R_reads' HO236.out).2.2 | (with_reducible refine Kd.C_alloc ?_ _) | (with_reducible refine Kd.C_drewN ?_ _) | (with_reducible refine Kd.C_drew ?_))); (case side2 => exact (Kd.R_reads' HO236.out).2.1); (case side3 => exact Kd.C_nil _ _); (case side4 => exact Nat.le_refl _); rintro e w13 ⟨v238, rfl, ho0, hb⟩; refine ⟨_, rfl, ?_⟩; have n0_ := Aside0.mk (Kd.R_below (by (with_reducible repeat (first | apply Kd.R_alloc | apply Kd.R_drewN | apply Kd.R_drew)); exact HO236.out) hb); have n1_ := Aside0.mk (Kd.R_lower ho0 (below_size (by repeat (first | (with_reducible first | exact HB.out | apply below_alloc | apply pw_below_drewN | apply below_drew1) | exact HB.out)))); have n2_ := Aside0.mk (below_step (by repeat (first | (with_reducible first | exact HB.out | apply below_alloc | apply pw_below_drewN | apply below_drew1) | exact HB.out)) hb); clear HO236; clear HB; have HO236 := n0_; have HO239 := n1_; have HB := n2_; clear n0_ n1_ n2_; (try clear hb); (try clear hb2); (try clear hk); (try clear hi); (try clear ho0)) | ((with_reducible refine gate_dst (N := 22) rfl ?_); (try (refine gate_guard (by rfl) ?_; dsimp only)); refine Kd.R_lit (Kd.int .i64) _ 3 ?hg (N := 22) ?hd (xs := ([a1] : List Int)) (inner := [.int .i64 a1]) (ok := fun _ => True) (okp := fun _ => True) ?hr ?hp (fun _ hk => hk) trivial (Below.refl _ _) (Nat.le_refl _) (by simp) ?_; (case hd => rfl); (case hg => rfl); (case hr => first | (go_simp; done) | (go_simp; rfl)); (case hp => exact (Reps.one (show Kd.M (Kd.int .i64) _ _ _ a1 [.int .i64 a1] from rfl) (Reps.none _ _))); intro v242 w14 ho15 hb hg_ hnew_; clear hg_ hnew_; (first | rw [← Ny241.out] at ho15 | (simp only [Int.reduceToNat] at ho15; rw [← Ny241.out] at ho15)); have n0_ := Aside0.mk (Kd.R_elder' (by (with_reducible repeat (first | apply Kd.R_alloc | apply Kd.R_drewN | apply Kd.R_drew)); exact HO236.out) (Kd.R_base ho15) hb); have n1_ := Aside0.mk (Kd.R_below (by (with_reducible repeat (first | apply Kd.R_alloc | apply Kd.R_drewN | apply Kd.R_drew)); exact HO239.out) hb); have n2_ := Aside0.mk (Kd.R_lower (Kd.R_new' ho15 (Kd.R_lt (by (with_reducible repeat (first | apply Kd.R_alloc | apply Kd.R_drewN | apply Kd.R_drew)); exact HO236.out))) (below_size (by repeat (first | (with_reducible first | exact HB.out | apply below_alloc | apply pw_below_drewN | apply below_drew1) | exact HB.out)))); have n3_ := Aside0.mk (below_step (by repeat (first | (with_reducible first | exact HB.out | apply below_alloc | apply pw_below_drewN | apply below_drew1) | exact HB.out)) hb); clear HO236; clear HO239; clear HB; have HO236 := n0_; have HO239 := n1_; have HO243 := n2_; have HB := n3_; clear n0_ n1_ n2_ n3_; clear hb ho15; obtain ⟨Ao16, co16, eo16⟩ := Kd.R_slice HO243.out; subst eo16) | ((with_reducible refine gate_callee (f := 19) rfl ?_); refine goesL_ (some 24) rfl rfl Tryd.func19 (by kernel_rfl) rfl #[.agg #[.int .i64 0, .slice Ao16 y241.length co16, .slice none 0 0]] rfl (by (try simp only [List.map_toArray, List.map_cons, List.map_nil]); first | done | rfl | (simp only [List.length_drop, List.length_take]; rfl)) ?_; (refine (wire_Encode.calls k 0 _ _ y241 _ _ ([] : List (List Int)) t244 t247 _ ?side1 ?side2 ?side3 ?side4 A6.out).mono ?_); (case side1 => repeat (first | exact (Kd.R_reads' HO243.out).2.2 | (with_reducible refine Kd.C_alloc ?_ _) | (with_reducible refine Kd.C_drewN ?_ _) | (with_reducible refine Kd.C_drew ?_))); (case side2 => exact (Kd.R_reads' HO243.out).2.1); (case side3 => exact Kd.C_nil _ _); (case side4 => exact Nat.le_refl _); rintro e w17 ⟨v245, rfl, ho0, hb⟩; refine ⟨_, rfl, ?_⟩; have n0_ := Aside0.mk (Kd.R_below (by (with_reducible repeat (first | apply Kd.R_alloc | apply Kd.R_drewN | apply Kd.R_drew)); exact HO236.out) hb); have n1_ := Aside0.mk (Kd.R_elder' (by (with_reducible repeat (first | apply Kd.R_alloc | apply Kd.R_drewN | apply Kd.R_drew)); exact HO239.out) (Kd.R_base ho0) hb); have n2_ := Aside0.mk (Kd.R_below (by (with_reducible repeat (first | apply Kd.R_alloc | apply Kd.R_drewN | apply Kd.R_drew)); exact HO243.out) hb); have n3_ := Aside0.mk (Kd.R_lower (Kd.R_new' ho0 (Kd.R_lt (by (with_reducible repeat (first | apply Kd.R_alloc | apply Kd.R_drewN | apply Kd.R_drew)); exact HO239.out))) (below_size (by repeat (first | (with_reducible first | exact HB.out | apply below_alloc | apply pw_below_drewN | apply below_drew1) | exact HB.out)))); have n4_ := Aside0.mk (below_step (by repeat (first | (with_reducible first | exact HB.out | apply below_alloc | apply pw_below_drewN | apply below_drew1) | exact HB.out)) hb); clear HO236; clear HO239; clear HO243; clear HB; have HO236 := n0_; have HO239 := n1_; have HO243 := n2_; have HO246 := n3_; have HB := n4_; clear n0_ n1_ n2_ n3_ n4_; (try clear hb); (try clear hb2); (try clear hk); (try clear hi); (try clear ho0); obtain ⟨Ao18, co18, eo18⟩ := Kd.R_slice HO239.out; subst eo18) | ((with_reducible refine gate_callee (f := 21) rfl ?_); refine goesL_ (some 29) rfl rfl Tryd.func21 (by kernel_rfl) rfl #[.slice Ao18 t237.length co18] rfl (by (try simp only [List.map_toArray, List.map_cons, List.map_nil]); first | done | rfl | (simp only [List.length_drop, List.length_take]; rfl)) ?_; (with_reducible refine (wire_Decode.calls k _ _ t237 t248 t249 t252 t255 _ ?side1 ?side2 A7.out).mono ?_); (case side1 => repeat (first | exact (Kd.R_reads' HO239.out).2.2 | (with_reducible refine Kd.C_alloc ?_ _) | (with_reducible refine Kd.C_drewN ?_ _) | (with_reducible refine Kd.C_drew ?_))); (case side2 => exact (Kd.R_reads' HO239.out).2.1); rintro e w19 ⟨v250, v253, rfl, ho0, ho1, hb⟩; refine ⟨_, rfl, ?_⟩; have n0_ := Aside0.mk (Kd.R_elder' (by (with_reducible repeat (first | apply Kd.R_alloc | apply Kd.R_drewN | apply Kd.R_drew)); exact HO236.out) (Kd.R_base ho0) hb); have n1_ := Aside0.mk (Kd.R_below (by (with_reducible repeat (first | apply Kd.R_alloc | apply Kd.R_drewN | apply Kd.R_drew)); exact HO239.out) hb); have n2_ := Aside0.mk (Kd.R_elder' (by (with_reducible repeat (first | apply Kd.R_alloc | apply Kd.R_drewN | apply Kd.R_drew)); exact HO243.out) (Kd.R_base ho0) hb); have n3_ := Aside0.mk (Kd.R_below (by (with_reducible repeat (first | apply Kd.R_alloc | apply Kd.R_drewN | apply Kd.R_drew)); exact HO246.out) hb); have n4_ := Aside0.mk (Kd.R_lower (Kd.R_new' (Kd.R_new' ho0 (Kd.R_lt (by (with_reducible repeat (first | apply Kd.R_alloc | apply Kd.R_drewN | apply Kd.R_drew)); exact HO236.out))) (Kd.R_lt (by (with_reducible repeat (first | apply Kd.R_alloc | apply Kd.R_drewN | apply Kd.R_drew)); exact HO243.out))) (below_size (by repeat (first | (with_reducible first | exact HB.out | apply below_alloc | apply pw_below_drewN | apply below_drew1) | exact HB.out)))); have n5_ := Aside0.mk (Kd.S_lower (Kd.S_new' (Kd.S_new' ho1 (Kd.R_lt (by (with_reducible repeat (first | apply Kd.R_alloc | apply Kd.R_drewN | apply Kd.R_drew)); exact HO239.out))) (Kd.R_lt (by (with_reducible repeat (first | apply Kd.R_alloc | apply Kd.R_drewN | apply Kd.R_drew)); exact HO246.out))) (below_size (by repeat (first | (with_reducible first | exact HB.out | apply below_alloc | apply pw_below_drewN | apply below_drew1) | exact HB.out)))); have n6_ := Aside0.mk (below_step (by repeat (first | (with_reducible first | exact HB.out | apply below_alloc | apply pw_below_drewN | apply below_drew1) | exact HB.out)) hb); clear HO236; clear HO239; clear HO243; clear HO246; clear HB; have HO236 := n0_; have HO239 := n1_; have HO243 := n2_; have HO246 := n3_; have HO251 := n4_; have HO254 := n5_; have HB := n6_; clear n0_ n1_ n2_ n3_ n4_ n5_ n6_; (try clear hb); (try clear hb2); (try clear hk); (try clear hi); (try clear ho0); (try clear ho1)) | ((with_reducible refine gate_dst (N := 9) rfl ?_); (try (refine gate_guard (by rfl) ?_; dsimp only)); refine box_event ?hg (N := 9) ?hd (cs := #[.int .i64 0, .slice none 0 0, .slice none 0 0]) (t := 44) ?hr ?_; (case hd => rfl); (case hg => rfl); (case hr => first | (go_simp; done) | (go_simp; rfl)); intro gb256 hg w20 hbox hb; have n0_ := Aside0.mk (Kd.R_below (by (with_reducible repeat (first | apply Kd.R_alloc | apply Kd.R_drewN | apply Kd.R_drew)); exact HO236.out) hb); have n1_ := Aside0.mk (Kd.R_below (by (with_reducible repeat (first | apply Kd.R_alloc | apply Kd.R_drewN | apply Kd.R_drew)); exact HO239.out) hb); have n2_ := Aside0.mk (Kd.R_below (by (with_reducible repeat (first | apply Kd.R_alloc | apply Kd.R_drewN | apply Kd.R_drew)); exact HO243.out) hb); have n3_ := Aside0.mk (Kd.R_below (by (with_reducible repeat (first | apply Kd.R_alloc | apply Kd.R_drewN | apply Kd.R_drew)); exact HO246.out) hb); have n4_ := Aside0.mk (Kd.R_below (by (with_reducible repeat (first | apply Kd.R_alloc | apply Kd.R_drewN | apply Kd.R_drew)); exact HO251.out) hb); have n5_ := Aside0.mk (Kd.S_below (by (with_reducible repeat (first | apply Kd.S_alloc | apply Kd.S_drewN | apply Kd.S_drew)); exact HO254.out) hb); have n6_ := Aside0.mk (below_step (by repeat (first | (with_reducible first | exact HB.out | apply below_alloc | apply pw_below_drewN | apply below_drew1) | exact HB.out)) hb); have n7_ := Aside0.mk (hbox); have n8_ := Aside0.mk ((by rw [hg]; exact (below_size (by repeat (first | (with_reducible first | exact HB.out | apply below_alloc | apply pw_below_drewN | apply below_drew1) | exact HB.out))) : w.heap.size ≤ gb256)); have n9_ := Aside0.mk ((by rw [hg]; exact (below_size (by repeat (first | (with_reducible first | exact HB.out | apply below_alloc | apply pw_below_drewN | apply below_drew1) | exact HB.out))) : w.heap.size ≤ gb256)); clear HO236; clear HO239; clear HO243; clear HO246; clear HO251; clear HO254; clear HB; have HO236 := n0_; have HO239 := n1_; have HO243 := n2_; have HO246 := n3_; have HO251 := n4_; have HO254 := n5_; have HB := n6_; have BK256 := n7_; have GW256 := n8_; have GE256 := n9_; clear n0_ n1_ n2_ n3_ n4_ n5_ n6_ n7_ n8_ n9_; clear hb hbox hg; have hcz21_0 : w20.cell? ⟨gb256, 0, none⟩ = some (.int .i64 0) := (blk_cell BK256.out 0).trans rfl; have hcz21_1 : w20.cell? ⟨gb256, 1, none⟩ = some (.slice none 0 0) := (blk_cell BK256.out 1).trans rfl; have hcz21_2 : w20.cell? ⟨gb256, 2, none⟩ = some (.slice none 0 0) := (blk_cell BK256.out 2).trans rfl; have hfz21_0 := blk_frozen BK256.out 0; have hfz21_1 := blk_frozen BK256.out 1; have hfz21_2 := blk_frozen BK256.out 2; obtain ⟨Ao22, co22, eo22⟩ := Kd.R_slice HO251.out; subst eo22; obtain ⟨Ao23, co23, eo23⟩ := Kd.S_slice HO254.out; subst eo23))
    (try simp only [Act.put, List.setIfInBounds_toArray, List.set_cons_zero, List.set_cons_succ])
    go_cut [54] (fun v54 wc => ∃ (kq : Nat) (x54_7 : Bool), v54 = .bool x54_7 ∧ Aside0 (undercroftlaw05_WireNumbers.j0 kq a0 a1 t237 t244 x54_7 = some r) ∧ Aside0 (kq ≤ k) ∧ Aside0 (Kd.R (Kd.int .u8) 5 wc w.heap.size (fun k_ => some k_ ≠ (v245 : Value).ownBlock) (.slice Ao18 t237.length co18) t237) ∧ Aside0 (Kd.R (Kd.int .u8) 5 wc w.heap.size (fun k_ => some k_ ≠ ((.slice Ao18 t237.length co18) : Value).ownBlock) v245 t244) ∧ Aside0 (Kd.R (Kd.int .i64) 3 wc w.heap.size (fun _ => True) (.slice Ao22 t249.length co22) t249) ∧ Aside0 (Kd.S (Kd.slice 5 (Kd.int .u8)) 23 wc w.heap.size (fun k_ => some k_ ≠ ((.slice Ao18 t237.length co18) : Value).ownBlock ∧ some k_ ≠ (v245 : Value).ownBlock) (.slice Ao23 t252.length co23) t252) ∧ Aside0 (wc.heap[gb256]? = some (.cells #[.int .i64 t248, (.slice Ao22 t249.length co22), (.slice Ao23 t252.length co23)] 44 (0, 0))) ∧ Aside0 (Below w.heap.size w wc))
    case first =>
      have H := HC8.out
      clear HC8
      replace H := Option.bind_eq_some_iff.mp H
      obtain ⟨t257, A240, H⟩ := H
      replace H : ((undercroftlaw05_num.f t247).bind fun t258 => ((undercroftlaw05_num.f t255).bind fun t259 => (if (wrap64 ((wrap64 (t257 + t258)) + t259)) = 0 then (if (t249.length : Int) = 1 then (if 0 < (t249.length : Int) then (undercroftlaw05_WireNumbers.j0 k a0 a1 t237 t244 ((rd t249 0) != a0)) else (none)) else (undercroftlaw05_WireNumbers.j0 k a0 a1 t237 t244 true)) else (undercroftlaw05_WireNumbers.j0 k a0 a1 t237 t244 true)))) = some r := H
      have A24 := Aside0.mk A240
      clear A240
      replace H := Option.bind_eq_some_iff.mp H
      obtain ⟨t258, A250, H⟩ := H
      replace H : ((undercroftlaw05_num.f t255).bind fun t259 => (if (wrap64 ((wrap64 (t257 + t258)) + t259)) = 0 then (if (t249.length : Int) = 1 then (if 0 < (t249.length : Int) then (undercroftlaw05_WireNumbers.j0 k a0 a1 t237 t244 ((rd t249 0) != a0)) else (none)) else (undercroftlaw05_WireNumbers.j0 k a0 a1 t237 t244 true)) else (undercroftlaw05_WireNumbers.j0 k a0 a1 t237 t244 true))) = some r := H
      have A25 := Aside0.mk A250
      clear A250
      replace H := Option.bind_eq_some_iff.mp H
      obtain ⟨t259, A260, H⟩ := H
      replace H : (if (wrap64 ((wrap64 (t257 + t258)) + t259)) = 0 then (if (t249.length : Int) = 1 then (if 0 < (t249.length : Int) then (undercroftlaw05_WireNumbers.j0 k a0 a1 t237 t244 ((rd t249 0) != a0)) else (none)) else (undercroftlaw05_WireNumbers.j0 k a0 a1 t237 t244 true)) else (undercroftlaw05_WireNumbers.j0 k a0 a1 t237 t244 true)) = some r := H
      have A26 := Aside0.mk A260
      clear A260
      by_cases c27 : (wrap64 ((wrap64 (t257 + t258)) + t259)) = 0
      · rw [if_pos c27] at H
        have c27b0 : ((wrap64 ((wrap64 (t257 + t258)) + t259)) == 0) = true := beq_iff_eq.mpr c27
        have c27b1 : ((wrap64 ((wrap64 (t257 + t258)) + t259)) != 0) = false := bne_eq_false_iff_eq.mpr c27
        clear c27
        (first | rw [c27b0] | (simp only [i64_w, i32_w]; rw [c27b0]) | skip)
        by_cases c28 : (t249.length : Int) = 1
        · rw [if_pos c28] at H
          have c28b0 : ((t249.length : Int) == 1) = true := beq_iff_eq.mpr c28
          have c28b1 : ((t249.length : Int) != 1) = false := bne_eq_false_iff_eq.mpr c28
          clear c28
          by_cases c29 : 0 < (t249.length : Int)
          · rw [if_pos c29] at H
            have c29b0 : decide (0 < (t249.length : Int)) = true := decide_eq_true c29
            have c29b1 : decide (0 < t249.length) = true := decide_eq_true (by omega)
            clear c29
            have H' := Aside0.mk H
            clear H
            go_wp2_with (first | ((with_reducible refine gate_callee (f := 16) rfl ?_); refine goesL_ (some 33) rfl rfl Tryd.func16 (by kernel_rfl) rfl #[.int .i64 t240] rfl (by (try simp only [List.map_toArray, List.map_cons, List.map_nil]); first | done | rfl | (simp only [List.length_drop, List.length_take]; rfl)) ?_; (with_reducible refine (undercroftlaw05_num.calls t240 t257 _ A24.out).mono ?_); rintro e w' ⟨rfl, ⟨nd, rfl⟩⟩; refine ⟨_, rfl, ?_⟩) | ((with_reducible refine gate_callee (f := 16) rfl ?_); refine goesL_ (some 35) rfl rfl Tryd.func16 (by kernel_rfl) rfl #[.int .i64 t247] rfl (by (try simp only [List.map_toArray, List.map_cons, List.map_nil]); first | done | rfl | (simp only [List.length_drop, List.length_take]; rfl)) ?_; (with_reducible refine (undercroftlaw05_num.calls t247 t258 _ A25.out).mono ?_); rintro e w' ⟨rfl, ⟨nd, rfl⟩⟩; refine ⟨_, rfl, ?_⟩) | ((with_reducible refine gate_callee (f := 16) rfl ?_); refine goesL_ (some 38) rfl rfl Tryd.func16 (by kernel_rfl) rfl #[.int .i64 t255] rfl (by (try simp only [List.map_toArray, List.map_cons, List.map_nil]); first | done | rfl | (simp only [List.length_drop, List.length_take]; rfl)) ?_; (with_reducible refine (undercroftlaw05_num.calls t255 t259 _ A26.out).mono ?_); rintro e w' ⟨rfl, ⟨nd, rfl⟩⟩; refine ⟨_, rfl, ?_⟩; have hcz30_0 : w20.cell? ⟨gb256, 0, none⟩ = some (.int .i64 0) := (blk_cell BK256.out 0).trans rfl; have hcz30_1 : w20.cell? ⟨gb256, 1, none⟩ = some (.slice none 0 0) := (blk_cell BK256.out 1).trans rfl; have hcz30_2 : w20.cell? ⟨gb256, 2, none⟩ = some (.slice none 0 0) := (blk_cell BK256.out 2).trans rfl; have hfz30_0 := blk_frozen BK256.out 0; have hfz30_1 := blk_frozen BK256.out 1; have hfz30_2 := blk_frozen BK256.out 2; have p260 : 0 ≤ (0 : Int) := (by omega); have q260 : 0 < (t249.length : Int) := of_decide_eq_true (by first | (with_reducible assumption) | assumption); obtain ⟨ad260, e260, hx260_0⟩ := Kd.at_int (Kd.R_reads' HO251.out).2.2 0 p260 q260; cases e260; have qi260 : (0 < t249.length) = True := eq_true (by omega); (try rw [show ((0 : Int)).toNat = 0 from rfl] at hx260_0); (try rw [Addr.add_zero'] at hx260_0); have hn260_0 : ad260.block ≠ gb256 := Kd.own_blk (Kd.R_ne HO251.out BK256.out (by decide)); have hn260_1 : ad260.block ≠ gb256 := Kd.own_blk (Kd.R_ne HO251.out BK256.out (by decide)); have hn260_2 : ad260.block ≠ gb256 := Kd.own_blk (Kd.R_ne HO251.out BK256.out (by decide)); replace hx260_0 := (cell_far (p := ⟨gb256, 0, none⟩) (by first | (rw [add_block]; exact hn260_0) | (show (Addr.add _ _).block ≠ _; rw [add_block]; exact hn260_0) | exact hn260_0) (.int .i64 t248)).trans hx260_0; replace hx260_0 := (cell_far (p := ⟨gb256, 1, none⟩) (by first | (rw [add_block]; exact hn260_1) | (show (Addr.add _ _).block ≠ _; rw [add_block]; exact hn260_1) | exact hn260_1) (.slice (some ad260) t249.length co22)).trans hx260_0; replace hx260_0 := (cell_far (p := ⟨gb256, 2, none⟩) (by first | (rw [add_block]; exact hn260_2) | (show (Addr.add _ _).block ≠ _; rw [add_block]; exact hn260_2) | exact hn260_2) (.slice Ao23 t252.length co23)).trans hx260_0; clear hn260_0; clear hn260_1; clear hn260_2; replace p260 := eq_true p260; replace q260 := eq_true q260))
            go_meet
            case rel => exact ⟨_, (((rd t249 0) != a0)), (by first | rfl | (simp; done) | (simp [*]; done)), H', ⟨by first | omega | exact Nat.le_refl _⟩, ⟨by (with_reducible repeat (first | apply Kd.R_alloc | apply Kd.R_drewN | apply Kd.R_drew)); exact Kd.R_mono (Kd.R_far (p := ⟨gb256, 2, none⟩) (Kd.R_far (p := ⟨gb256, 1, none⟩) (Kd.R_far (p := ⟨gb256, 0, none⟩) (Kd.R_types HO239.out BK256.out (by decide)) (fun _ hk => hk.2) (.int .i64 t248)) (fun _ hk => hk.2) (.slice (some ad260) t249.length co22)) (fun _ hk => hk.2) (.slice Ao23 t252.length co23)) (fun _ hk => hk.1.2)⟩, ⟨by (with_reducible repeat (first | apply Kd.R_alloc | apply Kd.R_drewN | apply Kd.R_drew)); exact Kd.R_mono (Kd.R_far (p := ⟨gb256, 2, none⟩) (Kd.R_far (p := ⟨gb256, 1, none⟩) (Kd.R_far (p := ⟨gb256, 0, none⟩) (Kd.R_types HO246.out BK256.out (by decide)) (fun _ hk => hk.2) (.int .i64 t248)) (fun _ hk => hk.2) (.slice (some ad260) t249.length co22)) (fun _ hk => hk.2) (.slice Ao23 t252.length co23)) (fun _ hk => hk.1.2)⟩, ⟨by (with_reducible repeat (first | apply Kd.R_alloc | apply Kd.R_drewN | apply Kd.R_drew)); exact Kd.R_mono (Kd.R_far (p := ⟨gb256, 2, none⟩) (Kd.R_far (p := ⟨gb256, 1, none⟩) (Kd.R_far (p := ⟨gb256, 0, none⟩) (Kd.R_types HO251.out BK256.out (by decide)) (fun _ hk => hk.2) (.int .i64 t248)) (fun _ hk => hk.2) (.slice (some ad260) t249.length co22)) (fun _ hk => hk.2) (.slice Ao23 t252.length co23)) (fun _ hk => trivial)⟩, ⟨by (with_reducible repeat (first | apply Kd.S_alloc | apply Kd.S_drewN | apply Kd.S_drew)); exact Kd.S_mono (Kd.S_far (p := ⟨gb256, 2, none⟩) (Kd.S_far (p := ⟨gb256, 1, none⟩) (Kd.S_far (p := ⟨gb256, 0, none⟩) (Kd.S_types HO254.out BK256.out (by decide)) (fun _ hk => hk.2) (.int .i64 t248)) (fun _ hk => hk.2) (.slice (some ad260) t249.length co22)) (fun _ hk => hk.2) (.slice Ao23 t252.length co23)) (fun _ hk => ⟨hk.1.1.2, hk.1.2⟩)⟩, ⟨by (with_reducible repeat (first | refine blk_drewN ?_ _ | refine blk_drew ?_ | refine blk_alloc ?_ _)); refine blk_put (cs := #[.int .i64 t248, .slice (some ad260) t249.length co22, .slice none 0 0]) ?_ 2 _ rfl; (with_reducible repeat (first | refine blk_drewN ?_ _ | refine blk_drew ?_ | refine blk_alloc ?_ _)); refine blk_put (cs := #[.int .i64 t248, .slice none 0 0, .slice none 0 0]) ?_ 1 _ rfl; (with_reducible repeat (first | refine blk_drewN ?_ _ | refine blk_drew ?_ | refine blk_alloc ?_ _)); refine blk_put (cs := #[.int .i64 0, .slice none 0 0, .slice none 0 0]) ?_ 0 _ rfl; (with_reducible repeat (first | refine blk_drewN ?_ _ | refine blk_drew ?_ | refine blk_alloc ?_ _)); exact BK256.out⟩, ⟨by repeat (first | (with_reducible first | exact HB.out | apply below_alloc | apply pw_below_drewN | apply below_drew1 | refine below_set ?_ GE256.out) | exact HB.out)⟩⟩
          · rw [if_neg c29] at H
            exact absurd H (by simp)
        · rw [if_neg c28] at H
          have c28b0 : ((t249.length : Int) == 1) = false := beq_eq_false_iff_ne.mpr c28
          have c28b1 : ((t249.length : Int) != 1) = true := bne_iff_ne.mpr c28
          have H' := Aside0.mk H
          clear H
          go_wp2_with (first | ((with_reducible refine gate_callee (f := 16) rfl ?_); refine goesL_ (some 33) rfl rfl Tryd.func16 (by kernel_rfl) rfl #[.int .i64 t240] rfl (by (try simp only [List.map_toArray, List.map_cons, List.map_nil]); first | done | rfl | (simp only [List.length_drop, List.length_take]; rfl)) ?_; (with_reducible refine (undercroftlaw05_num.calls t240 t257 _ A24.out).mono ?_); rintro e w' ⟨rfl, ⟨nd, rfl⟩⟩; refine ⟨_, rfl, ?_⟩) | ((with_reducible refine gate_callee (f := 16) rfl ?_); refine goesL_ (some 35) rfl rfl Tryd.func16 (by kernel_rfl) rfl #[.int .i64 t247] rfl (by (try simp only [List.map_toArray, List.map_cons, List.map_nil]); first | done | rfl | (simp only [List.length_drop, List.length_take]; rfl)) ?_; (with_reducible refine (undercroftlaw05_num.calls t247 t258 _ A25.out).mono ?_); rintro e w' ⟨rfl, ⟨nd, rfl⟩⟩; refine ⟨_, rfl, ?_⟩) | ((with_reducible refine gate_callee (f := 16) rfl ?_); refine goesL_ (some 38) rfl rfl Tryd.func16 (by kernel_rfl) rfl #[.int .i64 t255] rfl (by (try simp only [List.map_toArray, List.map_cons, List.map_nil]); first | done | rfl | (simp only [List.length_drop, List.length_take]; rfl)) ?_; (with_reducible refine (undercroftlaw05_num.calls t255 t259 _ A26.out).mono ?_); rintro e w' ⟨rfl, ⟨nd, rfl⟩⟩; refine ⟨_, rfl, ?_⟩; have hcz31_0 : w20.cell? ⟨gb256, 0, none⟩ = some (.int .i64 0) := (blk_cell BK256.out 0).trans rfl; have hcz31_1 : w20.cell? ⟨gb256, 1, none⟩ = some (.slice none 0 0) := (blk_cell BK256.out 1).trans rfl; have hcz31_2 : w20.cell? ⟨gb256, 2, none⟩ = some (.slice none 0 0) := (blk_cell BK256.out 2).trans rfl; have hfz31_0 := blk_frozen BK256.out 0; have hfz31_1 := blk_frozen BK256.out 1; have hfz31_2 := blk_frozen BK256.out 2))
          go_meet
          case rel => exact ⟨_, (true), (by first | rfl | (simp; done) | (simp [*]; done)), H', ⟨by first | omega | exact Nat.le_refl _⟩, ⟨by (with_reducible repeat (first | apply Kd.R_alloc | apply Kd.R_drewN | apply Kd.R_drew)); exact Kd.R_mono (Kd.R_far (p := ⟨gb256, 2, none⟩) (Kd.R_far (p := ⟨gb256, 1, none⟩) (Kd.R_far (p := ⟨gb256, 0, none⟩) (Kd.R_types HO239.out BK256.out (by decide)) (fun _ hk => hk.2) (.int .i64 t248)) (fun _ hk => hk.2) (.slice Ao22 t249.length co22)) (fun _ hk => hk.2) (.slice Ao23 t252.length co23)) (fun _ hk => hk.1.2)⟩, ⟨by (with_reducible repeat (first | apply Kd.R_alloc | apply Kd.R_drewN | apply Kd.R_drew)); exact Kd.R_mono (Kd.R_far (p := ⟨gb256, 2, none⟩) (Kd.R_far (p := ⟨gb256, 1, none⟩) (Kd.R_far (p := ⟨gb256, 0, none⟩) (Kd.R_types HO246.out BK256.out (by decide)) (fun _ hk => hk.2) (.int .i64 t248)) (fun _ hk => hk.2) (.slice Ao22 t249.length co22)) (fun _ hk => hk.2) (.slice Ao23 t252.length co23)) (fun _ hk => hk.1.2)⟩, ⟨by (with_reducible repeat (first | apply Kd.R_alloc | apply Kd.R_drewN | apply Kd.R_drew)); exact Kd.R_mono (Kd.R_far (p := ⟨gb256, 2, none⟩) (Kd.R_far (p := ⟨gb256, 1, none⟩) (Kd.R_far (p := ⟨gb256, 0, none⟩) (Kd.R_types HO251.out BK256.out (by decide)) (fun _ hk => hk.2) (.int .i64 t248)) (fun _ hk => hk.2) (.slice Ao22 t249.length co22)) (fun _ hk => hk.2) (.slice Ao23 t252.length co23)) (fun _ hk => trivial)⟩, ⟨by (with_reducible repeat (first | apply Kd.S_alloc | apply Kd.S_drewN | apply Kd.S_drew)); exact Kd.S_mono (Kd.S_far (p := ⟨gb256, 2, none⟩) (Kd.S_far (p := ⟨gb256, 1, none⟩) (Kd.S_far (p := ⟨gb256, 0, none⟩) (Kd.S_types HO254.out BK256.out (by decide)) (fun _ hk => hk.2) (.int .i64 t248)) (fun _ hk => hk.2) (.slice Ao22 t249.length co22)) (fun _ hk => hk.2) (.slice Ao23 t252.length co23)) (fun _ hk => ⟨hk.1.1.2, hk.1.2⟩)⟩, ⟨by (with_reducible repeat (first | refine blk_drewN ?_ _ | refine blk_drew ?_ | refine blk_alloc ?_ _)); refine blk_put (cs := #[.int .i64 t248, .slice Ao22 t249.length co22, .slice none 0 0]) ?_ 2 _ rfl; (with_reducible repeat (first | refine blk_drewN ?_ _ | refine blk_drew ?_ | refine blk_alloc ?_ _)); refine blk_put (cs := #[.int .i64 t248, .slice none 0 0, .slice none 0 0]) ?_ 1 _ rfl; (with_reducible repeat (first | refine blk_drewN ?_ _ | refine blk_drew ?_ | refine blk_alloc ?_ _)); refine blk_put (cs := #[.int .i64 0, .slice none 0 0, .slice none 0 0]) ?_ 0 _ rfl; (with_reducible repeat (first | refine blk_drewN ?_ _ | refine blk_drew ?_ | refine blk_alloc ?_ _)); exact BK256.out⟩, ⟨by repeat (first | (with_reducible first | exact HB.out | apply below_alloc | apply pw_below_drewN | apply below_drew1 | refine below_set ?_ GE256.out) | exact HB.out)⟩⟩
      · rw [if_neg c27] at H
        have c27b0 : ((wrap64 ((wrap64 (t257 + t258)) + t259)) == 0) = false := beq_eq_false_iff_ne.mpr c27
        have c27b1 : ((wrap64 ((wrap64 (t257 + t258)) + t259)) != 0) = true := bne_iff_ne.mpr c27
        (first | rw [c27b0] | (simp only [i64_w, i32_w]; rw [c27b0]) | skip)
        have H' := Aside0.mk H
        clear H
        go_wp2_with (first | ((with_reducible refine gate_callee (f := 16) rfl ?_); refine goesL_ (some 33) rfl rfl Tryd.func16 (by kernel_rfl) rfl #[.int .i64 t240] rfl (by (try simp only [List.map_toArray, List.map_cons, List.map_nil]); first | done | rfl | (simp only [List.length_drop, List.length_take]; rfl)) ?_; (with_reducible refine (undercroftlaw05_num.calls t240 t257 _ A24.out).mono ?_); rintro e w' ⟨rfl, ⟨nd, rfl⟩⟩; refine ⟨_, rfl, ?_⟩) | ((with_reducible refine gate_callee (f := 16) rfl ?_); refine goesL_ (some 35) rfl rfl Tryd.func16 (by kernel_rfl) rfl #[.int .i64 t247] rfl (by (try simp only [List.map_toArray, List.map_cons, List.map_nil]); first | done | rfl | (simp only [List.length_drop, List.length_take]; rfl)) ?_; (with_reducible refine (undercroftlaw05_num.calls t247 t258 _ A25.out).mono ?_); rintro e w' ⟨rfl, ⟨nd, rfl⟩⟩; refine ⟨_, rfl, ?_⟩) | ((with_reducible refine gate_callee (f := 16) rfl ?_); refine goesL_ (some 38) rfl rfl Tryd.func16 (by kernel_rfl) rfl #[.int .i64 t255] rfl (by (try simp only [List.map_toArray, List.map_cons, List.map_nil]); first | done | rfl | (simp only [List.length_drop, List.length_take]; rfl)) ?_; (with_reducible refine (undercroftlaw05_num.calls t255 t259 _ A26.out).mono ?_); rintro e w' ⟨rfl, ⟨nd, rfl⟩⟩; refine ⟨_, rfl, ?_⟩))
        go_meet
        case rel => exact ⟨_, (true), (by first | rfl | (simp; done) | (simp [*]; done)), H', ⟨by first | omega | exact Nat.le_refl _⟩, ⟨by (with_reducible repeat (first | apply Kd.R_alloc | apply Kd.R_drewN | apply Kd.R_drew)); exact Kd.R_mono (Kd.R_far (p := ⟨gb256, 2, none⟩) (Kd.R_far (p := ⟨gb256, 1, none⟩) (Kd.R_far (p := ⟨gb256, 0, none⟩) (Kd.R_types HO239.out BK256.out (by decide)) (fun _ hk => hk.2) (.int .i64 t248)) (fun _ hk => hk.2) (.slice Ao22 t249.length co22)) (fun _ hk => hk.2) (.slice Ao23 t252.length co23)) (fun _ hk => hk.1.2)⟩, ⟨by (with_reducible repeat (first | apply Kd.R_alloc | apply Kd.R_drewN | apply Kd.R_drew)); exact Kd.R_mono (Kd.R_far (p := ⟨gb256, 2, none⟩) (Kd.R_far (p := ⟨gb256, 1, none⟩) (Kd.R_far (p := ⟨gb256, 0, none⟩) (Kd.R_types HO246.out BK256.out (by decide)) (fun _ hk => hk.2) (.int .i64 t248)) (fun _ hk => hk.2) (.slice Ao22 t249.length co22)) (fun _ hk => hk.2) (.slice Ao23 t252.length co23)) (fun _ hk => hk.1.2)⟩, ⟨by (with_reducible repeat (first | apply Kd.R_alloc | apply Kd.R_drewN | apply Kd.R_drew)); exact Kd.R_mono (Kd.R_far (p := ⟨gb256, 2, none⟩) (Kd.R_far (p := ⟨gb256, 1, none⟩) (Kd.R_far (p := ⟨gb256, 0, none⟩) (Kd.R_types HO251.out BK256.out (by decide)) (fun _ hk => hk.2) (.int .i64 t248)) (fun _ hk => hk.2) (.slice Ao22 t249.length co22)) (fun _ hk => hk.2) (.slice Ao23 t252.length co23)) (fun _ hk => trivial)⟩, ⟨by (with_reducible repeat (first | apply Kd.S_alloc | apply Kd.S_drewN | apply Kd.S_drew)); exact Kd.S_mono (Kd.S_far (p := ⟨gb256, 2, none⟩) (Kd.S_far (p := ⟨gb256, 1, none⟩) (Kd.S_far (p := ⟨gb256, 0, none⟩) (Kd.S_types HO254.out BK256.out (by decide)) (fun _ hk => hk.2) (.int .i64 t248)) (fun _ hk => hk.2) (.slice Ao22 t249.length co22)) (fun _ hk => hk.2) (.slice Ao23 t252.length co23)) (fun _ hk => ⟨hk.1.1.2, hk.1.2⟩)⟩, ⟨by (with_reducible repeat (first | refine blk_drewN ?_ _ | refine blk_drew ?_ | refine blk_alloc ?_ _)); refine blk_put (cs := #[.int .i64 t248, .slice Ao22 t249.length co22, .slice none 0 0]) ?_ 2 _ rfl; (with_reducible repeat (first | refine blk_drewN ?_ _ | refine blk_drew ?_ | refine blk_alloc ?_ _)); refine blk_put (cs := #[.int .i64 t248, .slice none 0 0, .slice none 0 0]) ?_ 1 _ rfl; (with_reducible repeat (first | refine blk_drewN ?_ _ | refine blk_drew ?_ | refine blk_alloc ?_ _)); refine blk_put (cs := #[.int .i64 0, .slice none 0 0, .slice none 0 0]) ?_ 0 _ rfl; (with_reducible repeat (first | refine blk_drewN ?_ _ | refine blk_drew ?_ | refine blk_alloc ?_ _)); exact BK256.out⟩, ⟨by repeat (first | (with_reducible first | exact HB.out | apply below_alloc | apply pw_below_drewN | apply below_drew1 | refine below_set ?_ GE256.out) | exact HB.out)⟩⟩
    case rest =>
      clear HC8
      try clear c1
      try clear c2
      try clear p2
      try clear q2
      try clear hx2
      try clear qi2
      try clear c4
      try clear c6
      try clear p6
      try clear c16
      try clear c18
      try clear c19
      try clear c21
      try clear p26
      try clear q26
      try clear hx26
      try clear qi26
      try clear c27
      try clear c27b0
      try clear c27b1
      try clear c28
      try clear c28b0
      try clear c28b1
      try clear c29
      try clear c29b0
      try clear c29b1
      try clear hcz21_0
      try clear hcz21_1
      try clear hcz21_2
      try clear hcz30_0
      try clear hcz30_1
      try clear hcz30_2
      try clear hcz31_0
      try clear hcz31_1
      try clear hcz31_2
      try clear hfz21_0
      try clear hfz21_1
      try clear hfz21_2
      try clear hfz30_0
      try clear hfz30_1
      try clear hfz30_2
      try clear hfz31_0
      try clear hfz31_1
      try clear hfz31_2
      try clear hx260_0
      try clear p260
      try clear q260
      obtain ⟨kq, x54_7, rfl, HA, HJ7, HO_5, HO_7, HO_257001, HO_257002, BK256, HB⟩ := hcut
      cases kq with
      | zero => exact absurd HA.out (by simp [undercroftlaw05_WireNumbers.j0])
      | succ kj7 =>
        have H := HA.out
        clear HA
        simp only [undercroftlaw05_WireNumbers.j0] at H
        by_cases c32 : x54_7 = true
        · subst c32
          have H1 : (some false) = some r := by rw [if_pos rfl] at H; exact H
          clear H
          have H := H1
          clear H1
          obtain rfl := Option.some.inj H
          go_wp2
          go_ret
          exact ⟨by first | rfl | (simp [errW_none, errW_some] <;> rfl) | (simp [*, errW_none, errW_some] <;> rfl) | (exfalso; simp only [beq_iff_eq, decide_eq_true_eq] at *; omega), by repeat (first | (with_reducible first | exact HB.out | apply below_alloc | apply pw_below_drewN | apply below_drew1 | refine below_set ?_ GE256.out) | exact HB.out)⟩
        · replace c32 := Bool.eq_false_iff.mpr c32
          subst c32
          have H1 : (if a0 ≥ 0 then (if a1 ≥ 0 then (if a0 ≤ a1 then (some (decide ((t237.length : Int) ≤ (t244.length : Int)))) else (if a0 < 0 then (if a1 < 0 then (if a0 ≥ a1 then (some (decide ((t237.length : Int) ≤ (t244.length : Int)))) else (some true)) else (some true)) else (some true))) else (if a0 < 0 then (if a1 < 0 then (if a0 ≥ a1 then (some (decide ((t237.length : Int) ≤ (t244.length : Int)))) else (some true)) else (some true)) else (some true))) else (if a0 < 0 then (if a1 < 0 then (if a0 ≥ a1 then (some (decide ((t237.length : Int) ≤ (t244.length : Int)))) else (some true)) else (some true)) else (some true))) = some r := by rw [if_neg (show ¬ (false = true) by decide)] at H; exact H
          clear H
          have H := H1
          clear H1
          by_cases c33 : a0 ≥ 0
          · rw [if_pos c33] at H
            have c33b0 : decide (0 ≤ a0) = true := decide_eq_true c33
            clear c33
            by_cases c34 : a1 ≥ 0
            · rw [if_pos c34] at H
              have c34b0 : decide (0 ≤ a1) = true := decide_eq_true c34
              clear c34
              by_cases c35 : a0 ≤ a1
              · rw [if_pos c35] at H
                have c35b0 : decide (a0 ≤ a1) = true := decide_eq_true c35
                clear c35
                obtain rfl := Option.some.inj H
                obtain ⟨Ao36, co36, eo36⟩ := Kd.R_slice HO_7.out
                subst eo36
                go_wp2
                go_ret
                exact ⟨by first | rfl | (simp [errW_none, errW_some] <;> rfl) | (simp [*, errW_none, errW_some] <;> rfl) | (exfalso; simp only [beq_iff_eq, decide_eq_true_eq] at *; omega), by repeat (first | (with_reducible first | exact HB.out | apply below_alloc | apply pw_below_drewN | apply below_drew1 | refine below_set ?_ GE256.out) | exact HB.out)⟩
              · rw [if_neg c35] at H
                have c35b0 : decide (a0 ≤ a1) = false := decide_eq_false c35
                clear c35
                by_cases c37 : a0 < 0
                · rw [if_pos c37] at H
                  have c37b0 : decide (a0 < 0) = true := decide_eq_true c37
                  clear c37
                  by_cases c38 : a1 < 0
                  · rw [if_pos c38] at H
                    have c38b0 : decide (a1 < 0) = true := decide_eq_true c38
                    clear c38
                    by_cases c39 : a0 ≥ a1
                    · rw [if_pos c39] at H
                      have c39b0 : decide (a1 ≤ a0) = true := decide_eq_true c39
                      clear c39
                      obtain rfl := Option.some.inj H
                      obtain ⟨Ao40, co40, eo40⟩ := Kd.R_slice HO_7.out
                      subst eo40
                      go_wp2
                      go_ret
                      exact ⟨by first | rfl | (simp [errW_none, errW_some] <;> rfl) | (simp [*, errW_none, errW_some] <;> rfl) | (exfalso; simp only [beq_iff_eq, decide_eq_true_eq] at *; omega), by repeat (first | (with_reducible first | exact HB.out | apply below_alloc | apply pw_below_drewN | apply below_drew1 | refine below_set ?_ GE256.out) | exact HB.out)⟩
                    · rw [if_neg c39] at H
                      have c39b0 : decide (a1 ≤ a0) = false := decide_eq_false c39
                      clear c39
                      obtain rfl := Option.some.inj H
                      go_wp2
                      go_ret
                      exact ⟨by first | rfl | (simp [errW_none, errW_some] <;> rfl) | (simp [*, errW_none, errW_some] <;> rfl) | (exfalso; simp only [beq_iff_eq, decide_eq_true_eq] at *; omega), by repeat (first | (with_reducible first | exact HB.out | apply below_alloc | apply pw_below_drewN | apply below_drew1 | refine below_set ?_ GE256.out) | exact HB.out)⟩
                  · rw [if_neg c38] at H
                    have c38b0 : decide (a1 < 0) = false := decide_eq_false c38
                    clear c38
                    obtain rfl := Option.some.inj H
                    go_wp2
                    go_ret
                    exact ⟨by first | rfl | (simp [errW_none, errW_some] <;> rfl) | (simp [*, errW_none, errW_some] <;> rfl) | (exfalso; simp only [beq_iff_eq, decide_eq_true_eq] at *; omega), by repeat (first | (with_reducible first | exact HB.out | apply below_alloc | apply pw_below_drewN | apply below_drew1 | refine below_set ?_ GE256.out) | exact HB.out)⟩
                · rw [if_neg c37] at H
                  have c37b0 : decide (a0 < 0) = false := decide_eq_false c37
                  clear c37
                  obtain rfl := Option.some.inj H
                  go_wp2
                  go_ret
                  exact ⟨by first | rfl | (simp [errW_none, errW_some] <;> rfl) | (simp [*, errW_none, errW_some] <;> rfl) | (exfalso; simp only [beq_iff_eq, decide_eq_true_eq] at *; omega), by repeat (first | (with_reducible first | exact HB.out | apply below_alloc | apply pw_below_drewN | apply below_drew1 | refine below_set ?_ GE256.out) | exact HB.out)⟩
            · rw [if_neg c34] at H
              have c34b0 : decide (0 ≤ a1) = false := decide_eq_false c34
              clear c34
              by_cases c41 : a0 < 0
              · rw [if_pos c41] at H
                have c41b0 : decide (a0 < 0) = true := decide_eq_true c41
                clear c41
                by_cases c42 : a1 < 0
                · rw [if_pos c42] at H
                  have c42b0 : decide (a1 < 0) = true := decide_eq_true c42
                  clear c42
                  by_cases c43 : a0 ≥ a1
                  · rw [if_pos c43] at H
                    have c43b0 : decide (a1 ≤ a0) = true := decide_eq_true c43
                    clear c43
                    obtain rfl := Option.some.inj H
                    obtain ⟨Ao44, co44, eo44⟩ := Kd.R_slice HO_7.out
                    subst eo44
                    go_wp2
                    go_ret
                    exact ⟨by first | rfl | (simp [errW_none, errW_some] <;> rfl) | (simp [*, errW_none, errW_some] <;> rfl) | (exfalso; simp only [beq_iff_eq, decide_eq_true_eq] at *; omega), by repeat (first | (with_reducible first | exact HB.out | apply below_alloc | apply pw_below_drewN | apply below_drew1 | refine below_set ?_ GE256.out) | exact HB.out)⟩
                  · rw [if_neg c43] at H
                    have c43b0 : decide (a1 ≤ a0) = false := decide_eq_false c43
                    clear c43
                    obtain rfl := Option.some.inj H
                    go_wp2
                    go_ret
                    exact ⟨by first | rfl | (simp [errW_none, errW_some] <;> rfl) | (simp [*, errW_none, errW_some] <;> rfl) | (exfalso; simp only [beq_iff_eq, decide_eq_true_eq] at *; omega), by repeat (first | (with_reducible first | exact HB.out | apply below_alloc | apply pw_below_drewN | apply below_drew1 | refine below_set ?_ GE256.out) | exact HB.out)⟩
                · rw [if_neg c42] at H
                  have c42b0 : decide (a1 < 0) = false := decide_eq_false c42
                  clear c42
                  obtain rfl := Option.some.inj H
                  go_wp2
                  go_ret
                  exact ⟨by first | rfl | (simp [errW_none, errW_some] <;> rfl) | (simp [*, errW_none, errW_some] <;> rfl) | (exfalso; simp only [beq_iff_eq, decide_eq_true_eq] at *; omega), by repeat (first | (with_reducible first | exact HB.out | apply below_alloc | apply pw_below_drewN | apply below_drew1 | refine below_set ?_ GE256.out) | exact HB.out)⟩
              · rw [if_neg c41] at H
                have c41b0 : decide (a0 < 0) = false := decide_eq_false c41
                clear c41
                obtain rfl := Option.some.inj H
                go_wp2
                go_ret
                exact ⟨by first | rfl | (simp [errW_none, errW_some] <;> rfl) | (simp [*, errW_none, errW_some] <;> rfl) | (exfalso; simp only [beq_iff_eq, decide_eq_true_eq] at *; omega), by repeat (first | (with_reducible first | exact HB.out | apply below_alloc | apply pw_below_drewN | apply below_drew1 | refine below_set ?_ GE256.out) | exact HB.out)⟩
          · rw [if_neg c33] at H
            have c33b0 : decide (0 ≤ a0) = false := decide_eq_false c33
            clear c33
            by_cases c45 : a0 < 0
            · rw [if_pos c45] at H
              have c45b0 : decide (a0 < 0) = true := decide_eq_true c45
              clear c45
              by_cases c46 : a1 < 0
              · rw [if_pos c46] at H
                have c46b0 : decide (a1 < 0) = true := decide_eq_true c46
                clear c46
                by_cases c47 : a0 ≥ a1
                · rw [if_pos c47] at H
                  have c47b0 : decide (a1 ≤ a0) = true := decide_eq_true c47
                  clear c47
                  obtain rfl := Option.some.inj H
                  obtain ⟨Ao48, co48, eo48⟩ := Kd.R_slice HO_7.out
                  subst eo48
                  go_wp2
                  go_ret
                  exact ⟨by first | rfl | (simp [errW_none, errW_some] <;> rfl) | (simp [*, errW_none, errW_some] <;> rfl) | (exfalso; simp only [beq_iff_eq, decide_eq_true_eq] at *; omega), by repeat (first | (with_reducible first | exact HB.out | apply below_alloc | apply pw_below_drewN | apply below_drew1 | refine below_set ?_ GE256.out) | exact HB.out)⟩
                · rw [if_neg c47] at H
                  have c47b0 : decide (a1 ≤ a0) = false := decide_eq_false c47
                  clear c47
                  obtain rfl := Option.some.inj H
                  go_wp2
                  go_ret
                  exact ⟨by first | rfl | (simp [errW_none, errW_some] <;> rfl) | (simp [*, errW_none, errW_some] <;> rfl) | (exfalso; simp only [beq_iff_eq, decide_eq_true_eq] at *; omega), by repeat (first | (with_reducible first | exact HB.out | apply below_alloc | apply pw_below_drewN | apply below_drew1 | refine below_set ?_ GE256.out) | exact HB.out)⟩
              · rw [if_neg c46] at H
                have c46b0 : decide (a1 < 0) = false := decide_eq_false c46
                clear c46
                obtain rfl := Option.some.inj H
                go_wp2
                go_ret
                exact ⟨by first | rfl | (simp [errW_none, errW_some] <;> rfl) | (simp [*, errW_none, errW_some] <;> rfl) | (exfalso; simp only [beq_iff_eq, decide_eq_true_eq] at *; omega), by repeat (first | (with_reducible first | exact HB.out | apply below_alloc | apply pw_below_drewN | apply below_drew1 | refine below_set ?_ GE256.out) | exact HB.out)⟩
            · rw [if_neg c45] at H
              have c45b0 : decide (a0 < 0) = false := decide_eq_false c45
              clear c45
              obtain rfl := Option.some.inj H
              go_wp2
              go_ret
              exact ⟨by first | rfl | (simp [errW_none, errW_some] <;> rfl) | (simp [*, errW_none, errW_some] <;> rfl) | (exfalso; simp only [beq_iff_eq, decide_eq_true_eq] at *; omega), by repeat (first | (with_reducible first | exact HB.out | apply below_alloc | apply pw_below_drewN | apply below_drew1 | refine below_set ?_ GE256.out) | exact HB.out)⟩
  · replace c4 := Bool.eq_false_iff.mpr c4
    subst c4
    have H1 : (some false) = some r := by rw [if_neg (show ¬ (false = true) by decide)] at H; exact H
    clear H
    have H := H1
    clear H1
    obtain rfl := Option.some.inj H
    go_enter Tryd.func6, Tryd.ntmps6
    go_wp2_with (first | ((with_reducible refine gate_callee (f := 18) rfl ?_); refine goesL_ (some 11) rfl rfl Tryd.func18 (by kernel_rfl) rfl #[] rfl (by (try simp only [List.map_toArray, List.map_cons, List.map_nil]); first | done | rfl | (simp only [List.length_drop, List.length_take]; rfl)) ?_; (with_reducible refine (undercroftlaw05_alive.calls k  false _ A3.out).mono ?_); rintro e w49 ⟨rfl, hb⟩; refine ⟨_, rfl, ?_⟩; have n0_ := Aside0.mk (below_step (by repeat (first | (with_reducible first | exact HB.out | apply below_alloc | apply pw_below_drewN | apply below_drew1) | exact HB.out)) hb); clear HB; have HB := n0_; clear n0_; (try clear hb); (try clear hb2); (try clear hk); (try clear hi)))
    go_ret
    exact ⟨by first | rfl | (simp [errW_none, errW_some] <;> rfl) | (simp [*, errW_none, errW_some] <;> rfl) | (exfalso; simp only [beq_iff_eq, decide_eq_true_eq] at *; omega), by repeat (first | (with_reducible first | exact HB.out | apply below_alloc | apply pw_below_drewN | apply below_drew1) | exact HB.out)⟩

/-- THE ONE PURE STATEMENT of undercroftlaw05_WireNumbers: yours. -/
def undercroftlaw05_WireNumbers.Pure : Prop := ∀ (a0 : Int) (a1 : Int), (Lit.int .i64 a0).wf = true → (Lit.int .i64 a1).wf = true → ∃ k, undercroftlaw05_WireNumbers.f k a0 a1 = some true
theorem undercroftlaw05_WireNumbers.walk (P : undercroftlaw05_WireNumbers.Pure) (a0 : Int) (a1 : Int) (w : World) (w0 : (Lit.int .i64 a0).wf = true) (w1 : (Lit.int .i64 a1).wf = true) :
    Calls Tryd.prog 6 #[.int .i64 a0, .int .i64 a1] w fun e w' => e = .returned (.bool true) ∧ Below w.heap.size w w' := by
  obtain ⟨k, h⟩ := P a0 a1 w0 w1
  refine (undercroftlaw05_WireNumbers.calls k a0 a1 true w h).mono ?_
  rintro e w' ⟨rfl, hd⟩
  exact ⟨rfl, hd⟩

end Go.Proofs.YtkcianklokikoaaDoor.PWir
