-- Written by a program of this session (gen.py).
import Derived.Test.YtokjiinlhghggaaDoorPSegx0
import Derived.Test.YtokjiinlhghggaaDoorPSegx3
import Derived.Test.YtokjiinlhghggaaDoorPSegx5
import Derived.Test.YtokjiinlhghggaaDoorPSegx6
import Derived.Test.YtokjiinlhghggaaDoorPSegx8
namespace Go.Proofs.YtokjiinlhghggaaDoor.PSeg
open Go.RowKit Go.Proofs.YtokjiinlhghggaaDoorW.PrintWords Go.Proofs.YtokjiinlhghggaaDoorW.PrintLast Go.Proofs.YtokjiinlhghggaaDoorW.PrintMore
open Go.Proofs.YtokjiinlhghggaaDoor.Own
attribute [local go_sem high] unary_not_u32 unary_not_u64 unary_not_u8 string_leq_ string_gtr_
attribute [local go_sem] max2_int min2_int max_two min_two max_three min_three max_four min_four   -- for this text's walks alone
set_option linter.unusedVariables false
set_option linter.unusedSimpArgs false

/-! ### undercroftlaw13_SegmentOwn: function 5 -/
theorem own_gap {W : World} {base g n cap i : Nat} {okw : Nat → Prop} {xs : List S43} (h : Kd.S k43 43 W base okw (.slice (some ⟨g, 0, none⟩) n cap) xs) (hi : i < xs.length) :
    ∃ (oki : Nat → Prop) (v2 : Value), W.cell? ⟨g, i * 3, none⟩ = some (.int .i64 xs[i].f0) ∧ W.cell? ⟨g, i * 3 + 1, none⟩ = some (.int .i64 xs[i].f1) ∧ W.cell? ⟨g, i * 3 + 2, none⟩ = some v2 ∧ (∀ j, W.frozen? ⟨g, i * 3 + j, none⟩ = false) ∧ (∀ k, oki k → okw k ∧ k ≠ g) ∧ (Kd.int .u8).R 5 W base oki v2 xs[i].f2 ∧ Kd.H k43 43 W base okw (.slice (some ⟨g, 0, none⟩) n cap) xs (i : Int) oki [.int .i64 xs[i].f0, .int .i64 xs[i].f1, v2] := by
  have hn : n = xs.length := (Kd.S_reads' h).1
  obtain ⟨oki, c, hcl, hM, hcc, hfr, hoki, hH⟩ := Kd.S_elem h z43 (i : Int) (by omega) (by omega)
  rw [Int.toNat_natCast] at hM hcc hfr
  have e : xs.getD i z43 = xs[i] := by rw [List.getD_eq_getElem?_getD, List.getElem?_eq_getElem hi]; rfl
  rw [e] at hM
  obtain ⟨v2, rfl, hR⟩ := k43_openM hM
  exact ⟨oki, v2, hcc 0 _ rfl, hcc 1 _ rfl, hcc 2 _ rfl, hfr, hoki, hR, hH⟩
/-- Behind a reply's spoiling. -/
theorem own_back {W W1 : World} {base g n cap i : Nat} {okw oki : Nat → Prop} {xs : List S43} {v2 : Value} {f0 f1 : Int} {x2 r : List Int} (hH : Kd.H k43 43 W base okw (.slice (some ⟨g, 0, none⟩) n cap) xs (i : Int) oki [.int .i64 f0, .int .i64 f1, v2]) (hR : (Kd.int .u8).R 5 W base oki v2 x2) (hk : Kept W W1 oki) {ok' : Nat → Prop} (hR1 : (Kd.int .u8).R 5 W1 base ok' v2 r) :
    Kd.S k43 43 W1 base okw (.slice (some ⟨g, 0, none⟩) n cap) (xs.set i ⟨f0, f1, r⟩) := by
  have h1 : (Kd.int .u8).R 5 W1 base oki v2 r := Kd.R_mono (Kd.R_tight rfl hR1) (fun k hk => hR.1 k hk.symm)
  have h2 := Kd.H_back (Kd.H_kept hH hk (fun k _ h _ => h ‹_›)) (x' := (⟨f0, f1, r⟩ : S43)) (k43_mkM W1 base oki ⟨f0, f1, r⟩ h1) (fun _ h => h)
  rw [Int.toNat_natCast] at h2
  exact h2
def undercroftlaw13_SegmentOwn.f (k : Nat) (n : Int) (l : List S60) : Option Bool := (undercroftlaw13_alive.f k).bind fun t => if t = true then ((undercroftlaw13_Of.f k n l).bind fun x => (segment_Seal.f k x.1 x.2).bind fun b => if b.2 = 0 then (if (x.2.all fun y => (undercroftplain_Spoil.f k y.f2).isSome) = true ∧ x.2.length ≤ 4611686018427387904 then (segment_Open.f b.1).bind fun s => (undercroftplain_Spoil.f k b.1).bind fun _ => if s.2.2 = 0 then (undercroftlaw13_Alike.f k s.1 s.2.1 n l).bind fun t => some (t == 0) else none else none) else some ((b.1.length : Int) == 0)) else none
theorem undercroftlaw13_SegmentOwn.mono : ∀ a0 a1 k, LeO (undercroftlaw13_SegmentOwn.f k a0 a1) (undercroftlaw13_SegmentOwn.f (k + 1) a0 a1) := by
  intro a0 a1 k
  unfold undercroftlaw13_SegmentOwn.f
  refine LeO.bind (undercroftlaw13_alive.mono k) (fun _ => LeO.ite (LeO.bind (undercroftlaw13_Of.mono _ _ k) (fun tl => LeO.bind (segment_Seal.mono _ _ k) (fun b => LeO.ite ?_ (LeO.refl _)))) (LeO.refl _))
  by_cases h : (tl.2.all fun x => (undercroftplain_Spoil.f k x.f2).isSome) = true ∧ tl.2.length ≤ 4611686018427387904
  · have h' : (tl.2.all fun x => (undercroftplain_Spoil.f (k + 1) x.f2).isSome) = true ∧ tl.2.length ≤ 4611686018427387904 := ⟨by
      rw [List.all_eq_true] at *
      intro x hx
      obtain ⟨r, hr⟩ := Option.isSome_iff_exists.1 (h.1 x hx)
      rw [undercroftplain_Spoil.mono _ k r hr]; rfl, h.2⟩
    rw [if_pos h, if_pos h']
    exact LeO.bind (LeO.refl _) (fun _ => LeO.bind (undercroftplain_Spoil.mono _ k) (fun _ => LeO.ite (LeO.bind (undercroftlaw13_Alike.mono _ _ _ _ k) (fun _ => LeO.refl _)) (LeO.refl _)))
  · rw [if_neg h]
    exact LeO.none _
set_option maxHeartbeats 8000000 in
set_option maxRecDepth 100000 in
theorem undercroftlaw13_SegmentOwn.calls (k : Nat) (n : Int) (A1 : Option Addr) (c1 : Nat) (l : List S60) (r : Bool) (w : World) (hr1 : Kd.C k60 w A1 l.length l) (hc1 : l.length ≤ c1) (h : undercroftlaw13_SegmentOwn.f k n l = some r) :
    Calls Tryd.prog 5 #[.agg #[.int .i64 n, .slice A1 l.length c1]] w fun e w' => e = .returned (.bool r) ∧ Below w.heap.size w w' := by
  have HR1 := Aside0.mk (Kd.C_alloc hr1 (.cells #[.int .i64 n, .slice A1 l.length c1] 24))
  have HRW := Aside0.mk hr1
  have HC1 := Aside0.mk hc1
  have HB0 := Aside0.mk (below_alloc (Below.refl w.heap.size w) (.cells #[.int .i64 n, .slice A1 l.length c1] 24))
  have HG0 := Aside0.mk (heap_alloc_new w (.cells #[.int .i64 n, .slice A1 l.length c1] 24))
  have hsz : (w.alloc (.cells #[.int .i64 n, .slice A1 l.length c1] 24)).heap.size = w.heap.size + 1 := by simp
  unfold undercroftlaw13_SegmentOwn.f at h
  obtain ⟨t, h1, g1⟩ := Option.bind_eq_some_iff.1 h
  by_cases ht : t = true
  case neg => rw [if_neg ht] at g1; cases g1
  subst ht
  rw [if_pos rfl] at g1
  obtain ⟨⟨m, tl⟩, h2, g2⟩ := Option.bind_eq_some_iff.1 g1
  obtain ⟨⟨b, be⟩, h3, g3⟩ := Option.bind_eq_some_iff.1 g2
  have A1_ := Aside0.mk h1
  have A2 := Aside0.mk h2
  have A3 := Aside0.mk h3
  simp only at g3
  clear h g1 g2 h1 h2 h3 hr1 hc1
  have hu24 := Tryd.underlying24
  have hu32 := Tryd.underlying32
  have hu43 := Tryd.underlying43
  go_enter Tryd.func5, Tryd.ntmps5
  generalize hW0 : w.alloc (.cells #[.int .i64 n, .slice A1 l.length c1] 24) = W0 at HR1 HB0 HG0 hsz
  by_cases hbe : be = 0
  case neg =>
    rw [if_neg hbe] at g3
    have hr := Option.some.inj g3
    have HR_ := Aside0.mk hr
    have hbe' : (be != 0) = true := bne_iff_ne.2 hbe
    have hbe2 : (be == 0) = false := beq_eq_false_iff_ne.2 hbe
    clear g3 hr
    go_wp2_with (first
      | (go_at_call 9; go_loud (refine (undercroftlaw13_alive.calls k true _ A1_.out).mono ?_; rintro e w1 ⟨rfl, hb1⟩; have HB1 := Aside0.mk (below_step HB0.out hb1); have HR := Aside0.mk (Kd.C_below HR1.out hb1); have HG1 : Aside0 (w1.heap[w.heap.size]? = some (.cells #[.int .i64 n, .slice A1 l.length c1] 24 (0, 0))) := ⟨(hb1.block w.heap.size (by omega)).trans HG0.out⟩; have HZ1 : Aside0 (w.heap.size < w1.heap.size) := ⟨by have h_ := hb1.size; omega⟩; have gc0 := blk_cell HG1.out 0; have gc1 := blk_cell HG1.out 1; clear hb1 HR1 HB0 HG0 hsz))
      | (go_at_call 11; go_loud (refine (undercroftlaw13_Of.calls k n A1 c1 l m tl _ HR.out HC1.out A2.out).mono ?_; rintro e w2 ⟨v2, rfl, ho2, hb2⟩; obtain ⟨D9, e9, rfl⟩ := Kd.S_slice ho2; have HS2 := Aside0.mk ho2; have HB2 := Aside0.mk hb2; clear ho2 hb2))
      | ((with_reducible refine gate_dst (N := 3) rfl ?_); (try (refine gate_guard (by rfl) ?_; dsimp only)); refine box_event ?hg (N := 3) ?hd (cs := #[.int .i64 0, .slice none 0 0]) (t := 32) ?hr ?_; (case hd => rfl); (case hg => rfl); (case hr => first | (go_simp; done) | (go_simp; rfl)); intro gb hg w3 hbox hb; go_loud (have HG := Aside0.mk hg; have HBX := Aside0.mk hb; have HBK := Aside0.mk hbox; clear hb hg hbox; have hcz0 : w3.cell? ⟨gb, 0, none⟩ = some (.int .i64 0) := (blk_cell HBK.out 0).trans rfl; have hcz1 : w3.cell? ⟨gb, 1, none⟩ = some (.slice none 0 0) := (blk_cell HBK.out 1).trans rfl; have hfz0 := blk_frozen HBK.out 0; have hfz1 := blk_frozen HBK.out 1))
      | ((with_reducible refine gate_store (t := 32) (p := 3) rfl ?_); refine store_event (t := 32) (p := 3) (v := ?vo_w21) (w1 := ((w3.setCell ⟨gb, 0, none⟩ (.int .i64 m)).setCell ⟨gb, 1, none⟩ (.slice D9 tl.length e9))) ?hg ?ho ?hn ?hr ?_; (case ho => rfl); (case hg => rfl); (case hn => rfl); (case hr => first | (go_simp; done) | (go_simp; rfl)); intro w4 hw; go_loud (have hb24 : Below w2.heap.size w2 w4 := (by rw [hw]; exact below_set (below_set HBX.out (Nat.le_of_eq HG.out.symm)) (Nat.le_of_eq HG.out.symm)); have HB4 := Aside0.mk (below_step (below_step HB1.out HB2.out) hb24); have HD4 : Aside0 (w4.heap[gb]? = some (.cells #[.int .i64 m, .slice D9 tl.length e9] 32 (0, 0))) := ⟨by rw [hw]; refine blk_put (cs := #[.int .i64 m, .slice none 0 0]) ?_ 1 _ rfl; refine blk_put (cs := #[.int .i64 0, .slice none 0 0]) ?_ 0 _ rfl; exact HBK.out⟩; have HG4 : Aside0 (w4.heap[w.heap.size]? = some (.cells #[.int .i64 n, .slice A1 l.length c1] 24 (0, 0))) := ⟨(hb24.block _ (Nat.lt_of_lt_of_le HZ1.out HB2.out.size)).trans ((HB2.out.block _ HZ1.out).trans HG1.out)⟩; have HS4 := Aside0.mk (Kd.S_mono (ok' := fun k_ => w1.heap.size ≤ k_ ∧ k_ < w2.heap.size) (Kd.S_lower (Kd.S_below (Kd.S_bound HS2.out) hb24) (Nat.le_of_lt HZ1.out)) (fun k_ hk_ => ⟨hk_.2.1, hk_.2.2.1⟩)); have HR4 := Aside0.mk (Kd.C_below (Kd.C_below HR.out HB2.out) hb24); have HGG : Aside0 (gb = w2.heap.size) := ⟨HG.out⟩; have hq0 : w4.cell? ⟨gb, 0, none⟩ = some (.int .i64 m) := (blk_cell HD4.out 0).trans rfl; have hq1 : w4.cell? ⟨gb, 1, none⟩ = some (.slice D9 tl.length e9) := (blk_cell HD4.out 1).trans rfl; clear hw hcz0 hcz1 hfz0 hfz1 hb24 HS2 HR HBX HBK))
      | (go_at_call 10; go_loud (refine (segment_Seal.calls k m D9 e9 tl b be _ (Kd.S_reads' HS4.out).2.2 (Kd.S_reads' HS4.out).2.1 A3.out).mono ?_; rintro e w5 ⟨v5, rfl, ho5, hb5⟩; obtain ⟨D5, e5, rfl⟩ := Kd.R_slice ho5; have HO5 := Aside0.mk (Kd.R_mono (ok' := fun k_ => w4.heap.size ≤ k_) (Kd.R_bound ho5) (fun k_ hk_ => hk_.2.1)); have HB5 := Aside0.mk (below_step HB4.out hb5); have HS5 := Aside0.mk (Kd.S_mono (ok' := fun k_ => w1.heap.size ≤ k_ ∧ k_ < w2.heap.size) (Kd.S_below HS4.out hb5) (fun _ h_ => h_)); have HR5 := Aside0.mk (Kd.C_below HR4.out hb5); have HG5 := Aside0.mk ((hb5.block _ (blk_lt HG4.out)).trans HG4.out); have HD5 := Aside0.mk ((hb5.block _ (blk_lt HD4.out)).trans HD4.out); have hZ45 := Aside0.mk (blk_lt HD4.out); have HZ5 := Aside0.mk hb5.size; clear ho5 hb5))
      | (go_at_call 12; refine (undercroftlaw13_num.calls be be _ rfl).mono ?_; rintro e w6 ⟨rfl, hd⟩; obtain ⟨nd, rfl⟩ := hd.out))
    go_ret
    exact ⟨by rw [← HR_.out]; rfl, pw_below_drewN HB5.out _⟩
  subst hbe
  rw [if_pos rfl] at g3
  by_cases ha : (tl.all fun y => (undercroftplain_Spoil.f k y.f2).isSome) = true ∧ tl.length ≤ 4611686018427387904
  case neg => rw [if_neg ha] at g3; cases g3
  rw [if_pos ha] at g3
  obtain ⟨⟨s1, s2, s3⟩, h4, g4⟩ := Option.bind_eq_some_iff.1 g3
  obtain ⟨sp, h5, g5⟩ := Option.bind_eq_some_iff.1 g4
  simp only at g5 h4 h5
  by_cases hs3 : s3 = 0
  case neg => rw [if_neg hs3] at g5; cases g5
  subst hs3
  rw [if_pos rfl] at g5
  obtain ⟨al, h6, g6⟩ := Option.bind_eq_some_iff.1 g5
  have hr := Option.some.inj g6
  have A4 := Aside0.mk h4
  have A5 := Aside0.mk h5
  have A6 := Aside0.mk h6
  have AA := Aside0.mk ha.1
  have HLT := Aside0.mk ha.2
  have HR_ := Aside0.mk hr
  clear g3 g4 g5 g6 h4 h5 h6 ha hr
  go_wp2_with (first
    | (go_at_call 9; go_loud (refine (undercroftlaw13_alive.calls k true _ A1_.out).mono ?_; rintro e w1 ⟨rfl, hb1⟩; have HB1 := Aside0.mk (below_step HB0.out hb1); have HR := Aside0.mk (Kd.C_below HR1.out hb1); have HG1 : Aside0 (w1.heap[w.heap.size]? = some (.cells #[.int .i64 n, .slice A1 l.length c1] 24 (0, 0))) := ⟨(hb1.block w.heap.size (by omega)).trans HG0.out⟩; have HZ1 : Aside0 (w.heap.size < w1.heap.size) := ⟨by have h_ := hb1.size; omega⟩; have gc0 := blk_cell HG1.out 0; have gc1 := blk_cell HG1.out 1; clear hb1 HR1 HB0 HG0 hsz))
    | (go_at_call 11; go_loud (refine (undercroftlaw13_Of.calls k n A1 c1 l m tl _ HR.out HC1.out A2.out).mono ?_; rintro e w2 ⟨v2, rfl, ho2, hb2⟩; obtain ⟨D9, e9, rfl⟩ := Kd.S_slice ho2; have HS2 := Aside0.mk ho2; have HB2 := Aside0.mk hb2; clear ho2 hb2))
    | ((with_reducible refine gate_dst (N := 3) rfl ?_); (try (refine gate_guard (by rfl) ?_; dsimp only)); refine box_event ?hg (N := 3) ?hd (cs := #[.int .i64 0, .slice none 0 0]) (t := 32) ?hr ?_; (case hd => rfl); (case hg => rfl); (case hr => first | (go_simp; done) | (go_simp; rfl)); intro gb hg w3 hbox hb; go_loud (have HG := Aside0.mk hg; have HBX := Aside0.mk hb; have HBK := Aside0.mk hbox; clear hb hg hbox; have hcz0 : w3.cell? ⟨gb, 0, none⟩ = some (.int .i64 0) := (blk_cell HBK.out 0).trans rfl; have hcz1 : w3.cell? ⟨gb, 1, none⟩ = some (.slice none 0 0) := (blk_cell HBK.out 1).trans rfl; have hfz0 := blk_frozen HBK.out 0; have hfz1 := blk_frozen HBK.out 1))
    | ((with_reducible refine gate_store (t := 32) (p := 3) rfl ?_); refine store_event (t := 32) (p := 3) (v := ?vo_w21) (w1 := ((w3.setCell ⟨gb, 0, none⟩ (.int .i64 m)).setCell ⟨gb, 1, none⟩ (.slice D9 tl.length e9))) ?hg ?ho ?hn ?hr ?_; (case ho => rfl); (case hg => rfl); (case hn => rfl); (case hr => first | (go_simp; done) | (go_simp; rfl)); intro w4 hw; go_loud (have hb24 : Below w2.heap.size w2 w4 := (by rw [hw]; exact below_set (below_set HBX.out (Nat.le_of_eq HG.out.symm)) (Nat.le_of_eq HG.out.symm)); have HB4 := Aside0.mk (below_step (below_step HB1.out HB2.out) hb24); have HD4 : Aside0 (w4.heap[gb]? = some (.cells #[.int .i64 m, .slice D9 tl.length e9] 32 (0, 0))) := ⟨by rw [hw]; refine blk_put (cs := #[.int .i64 m, .slice none 0 0]) ?_ 1 _ rfl; refine blk_put (cs := #[.int .i64 0, .slice none 0 0]) ?_ 0 _ rfl; exact HBK.out⟩; have HG4 : Aside0 (w4.heap[w.heap.size]? = some (.cells #[.int .i64 n, .slice A1 l.length c1] 24 (0, 0))) := ⟨(hb24.block _ (Nat.lt_of_lt_of_le HZ1.out HB2.out.size)).trans ((HB2.out.block _ HZ1.out).trans HG1.out)⟩; have HS4 := Aside0.mk (Kd.S_mono (ok' := fun k_ => w1.heap.size ≤ k_ ∧ k_ < w2.heap.size) (Kd.S_lower (Kd.S_below (Kd.S_bound HS2.out) hb24) (Nat.le_of_lt HZ1.out)) (fun k_ hk_ => ⟨hk_.2.1, hk_.2.2.1⟩)); have HR4 := Aside0.mk (Kd.C_below (Kd.C_below HR.out HB2.out) hb24); have HGG : Aside0 (gb = w2.heap.size) := ⟨HG.out⟩; have hq0 : w4.cell? ⟨gb, 0, none⟩ = some (.int .i64 m) := (blk_cell HD4.out 0).trans rfl; have hq1 : w4.cell? ⟨gb, 1, none⟩ = some (.slice D9 tl.length e9) := (blk_cell HD4.out 1).trans rfl; clear hw hcz0 hcz1 hfz0 hfz1 hb24 HS2 HR HBX HBK))
    | (go_at_call 10; go_loud (refine (segment_Seal.calls k m D9 e9 tl b 0 _ (Kd.S_reads' HS4.out).2.2 (Kd.S_reads' HS4.out).2.1 A3.out).mono ?_; rintro e w5 ⟨v5, rfl, ho5, hb5⟩; obtain ⟨D5, e5, rfl⟩ := Kd.R_slice ho5; have HO5 := Aside0.mk (Kd.R_mono (ok' := fun k_ => w4.heap.size ≤ k_) (Kd.R_bound ho5) (fun k_ hk_ => hk_.2.1)); have HB5 := Aside0.mk (below_step HB4.out hb5); have HS5 := Aside0.mk (Kd.S_mono (ok' := fun k_ => w1.heap.size ≤ k_ ∧ k_ < w2.heap.size) (Kd.S_below HS4.out hb5) (fun _ h_ => h_)); have HR5 := Aside0.mk (Kd.C_below HR4.out hb5); have HG5 := Aside0.mk ((hb5.block _ (blk_lt HG4.out)).trans HG4.out); have HD5 := Aside0.mk ((hb5.block _ (blk_lt HD4.out)).trans HD4.out); have hZ45 := Aside0.mk (blk_lt HD4.out); have HZ5 := Aside0.mk hb5.size; clear ho5 hb5))
    | (go_at_call 12; refine (undercroftlaw13_num.calls 0 0 _ rfl).mono ?_; rintro e w6 ⟨rfl, hd⟩; obtain ⟨nd, rfl⟩ := hd.out))
  have hz24 : w2.heap.size < w4.heap.size := by have h_ := hZ45.out; rw [HGG.out] at h_; exact h_
  have hz1 := HZ1.out
  have hz12 : w1.heap.size ≤ w2.heap.size := HB2.out.size
  have hz45 : w4.heap.size ≤ w5.heap.size := HZ5.out
  have hz04 : w.heap.size ≤ w4.heap.size := by omega
  obtain ⟨W5, hW5⟩ : ∃ W, W = w5.drewN nd := ⟨_, rfl⟩
  have HSW := Aside0.mk (show Kd.S k43 43 W5 w.heap.size (fun k_ => w1.heap.size ≤ k_ ∧ k_ < w2.heap.size) (.slice D9 tl.length e9) tl from by rw [hW5]; exact Kd.S_drewN HS5.out nd)
  have HOW := Aside0.mk (show Kd.R (Kd.int .u8) 5 W5 w4.heap.size (fun k_ => w4.heap.size ≤ k_) (.slice D5 b.length e5) b from by rw [hW5]; exact Kd.R_drewN HO5.out nd)
  have HDW := Aside0.mk (show W5.heap[gb]? = some (.cells #[.int .i64 m, .slice D9 tl.length e9] 32 (0, 0)) from by rw [hW5]; exact blk_drewN HD5.out nd)
  have HGW := Aside0.mk (show W5.heap[w.heap.size]? = some (.cells #[.int .i64 n, .slice A1 l.length c1] 24 (0, 0)) from by rw [hW5]; exact blk_drewN HG5.out nd)
  have HBW := Aside0.mk (show Below w.heap.size w W5 from by rw [hW5]; exact pw_below_drewN HB5.out nd)
  rw [← hW5]
  have HGE := Aside0.mk HGG.out
  clear hW5 HS5 HO5 HD5 HG5 HB5 HR5 HR4 HG4 HD4 HS4 HB4 hq0 hq1 gc0 gc1 HG1 hd A1_ A2 A3 hZ45 HZ5 HGG HG HB2 HB1 HZ1
  obtain ⟨N, hN⟩ : ∃ N, N = tl.length := ⟨_, rfl⟩
  have HN := Aside0.mk hN
  have hN63 : N ≤ 4611686018427387904 := by rw [hN]; exact HLT.out
  rw [← hN]
  rw [← hN] at HSW HDW
  clear hN
  go_loopw [6] (fun v6 W => ∃ (j : Nat) (xs : List S43), j ≤ N ∧ v6 = .int .i64 (j : Int) ∧ Aside0 (xs.length = N) ∧ Aside0 (xs.drop j = tl.drop j) ∧ Aside0 (Kd.S k43 43 W w.heap.size (fun k_ => w1.heap.size ≤ k_ ∧ k_ < w2.heap.size) (.slice D9 N e9) xs) ∧ Aside0 (Kept W5 W (fun k_ => w1.heap.size ≤ k_ ∧ k_ < w2.heap.size)) ∧ Aside0 (W.heap[gb]? = some (.cells #[.int .i64 m, .slice D9 N e9] 32 (0, 0))) ∧ Aside0 (Below w.heap.size w W)) (fun v6 _ => N - (intOf v6).toNat)
  case atStart => exact ⟨0, tl, Nat.zero_le _, rfl, ⟨HN.out.symm⟩, ⟨rfl⟩, HSW, ⟨Kept.refl _ _⟩, HDW, HBW⟩
  case round =>
    obtain ⟨j, xs, hm, rfl, HXL, HXD, HW, HK, HGB, HBw⟩ := hrel
    have hq1 : wr.cell? ⟨gb, 1, none⟩ = some (.slice D9 N e9) := (blk_cell HGB.out 1).trans rfl
    by_cases hlt : j < N
    · have hd : decide ((j : Int) < (N : Int)) = true := by simp; omega
      have hmL : j < xs.length := by have := HXL.out; omega
      obtain ⟨g, cap, he, hg1, hg2, cells, hgc⟩ := Kd.S_form HW.out (by omega)
      injection he with he1 he2 he3
      clear he2
      subst he1 he3
      clear hgc hg2 hg1
      obtain ⟨oki, v2, hx0, hx1, hx2, hf, hoki, hR2, hH⟩ := own_gap HW.out hmL
      have hsp : ∃ r2, undercroftplain_Spoil.f k xs[j].f2 = some r2 := by
        have h1 : tl[j]? = xs[j]? := by
          have h2 := congrArg (fun l => l[0]?) HXD.out
          simpa [List.getElem?_drop] using h2.symm
        have h3 : xs[j] ∈ tl := by
          rw [List.getElem?_eq_getElem hmL] at h1
          exact List.mem_of_getElem? h1
        exact Option.isSome_iff_exists.1 (List.all_eq_true.1 AA.out _ h3)
      obtain ⟨r2, hr2⟩ := hsp
      have HSP := Aside0.mk hr2
      have HR2 := Aside0.mk hR2
      have HH := Aside0.mk hH
      have HOK := Aside0.mk hoki
      clear hr2 hR2 hH hoki hx0 hx1 hf
      have HX := Aside0.mk (show (xs.set j (⟨xs[j].f0, xs[j].f1, r2⟩ : S43)).length = xs.length from List.length_set)
      generalize hx : xs[j] = x at *
      clear hx
      go_wp2_with (first
        | (go_at_call 16; refine (undercroftplain_Spoil.calls k oki v2 x.f2 r2 w _ HBw.out HR2.out HSP.out).mono ?_; rintro e w7 ⟨rfl, hr7, hb7, hk7⟩; go_loud (have HS7 := Aside0.mk (own_back HH.out HR2.out hk7 hr7); have HB7 := Aside0.mk hb7; have HK7 := Aside0.mk (HK.out.then_ hk7 (fun k_ hk_ => .inl (HOK.out k_ hk_).1)); have HG7 := Aside0.mk (blk_kept HGB.out hk7 (fun h_ => by have h1_ := (HOK.out _ h_).1.2; have h2_ := HGE.out; omega)); clear hr7 hb7 hk7)))
      have hw : wrap64 ((j : Int) + 1) = ((j + 1 : Nat) : Int) := by unfold wrap64; omega
      refine ⟨⟨j + 1, xs.set j ⟨x.f0, x.f1, r2⟩, hlt, by simp, ⟨by rw [List.length_set]; exact HXL.out⟩, ⟨?_⟩, HS7, HK7, HG7, HB7⟩, by simp only [intOf]; omega⟩
      rw [List.drop_set, if_pos (by omega), ← List.drop_drop, HXD.out, List.drop_drop]
    · have hmN : j = N := by omega
      have hd : decide ((j : Int) < (N : Int)) = false := by simp; omega
      obtain rfl := hmN
      have HOR := Aside0.mk (Kd.R_kept HOW.out HK.out (fun k_ h1_ h2_ => by omega))
      have HG0 := Aside0.mk (blk_kept HGW.out HK.out (fun h_ => by omega))
      have hq := HK.out.1
      have HWS := Aside0.mk hq
      have HB5 := Aside0.mk (Kd.R_base HOR.out)
      have HL5 := Aside0.mk (Kd.R_lt HOR.out)
      have HC5 := Aside0.mk (Kd.R_reads' HOR.out)
      go_wp2_with (first
        | (go_at_call 13; go_loud (refine (segment_Open.calls D5 e5 b s1 s2 0 _ HC5.out.2.2 HC5.out.2.1 A4.out).mono ?_; rintro e w7 ⟨v7, rfl, ho7, hb7⟩; obtain ⟨D7, e7, rfl⟩ := Kd.S_slice ho7; have HS7 := Aside0.mk (Kd.S_bound ho7); have HB7 := Aside0.mk hb7; have HT7 := Aside0.mk (below_step HBw.out hb7); have HG7 := Aside0.mk ((hb7.block _ (blk_lt HG0.out)).trans HG0.out); have HO7 := Aside0.mk (Kd.R_below HOR.out hb7); clear ho7 hb7 hq1))
        | ((with_reducible refine gate_dst (N := 7) rfl ?_); (try (refine gate_guard (by rfl) ?_; dsimp only)); refine box_event ?hg (N := 7) ?hd (cs := #[.int .i64 0, .slice none 0 0]) (t := 32) ?hr ?_; (case hd => rfl); (case hg => rfl); (case hr => first | (go_simp; done) | (go_simp; rfl)); intro gc hg w8 hbox hb; go_loud (have HGC := Aside0.mk hg; have HBX := Aside0.mk hb; have HBK := Aside0.mk hbox; clear hb hg hbox; have hcz0 : w8.cell? ⟨gc, 0, none⟩ = some (.int .i64 0) := (blk_cell HBK.out 0).trans rfl; have hcz1 : w8.cell? ⟨gc, 1, none⟩ = some (.slice none 0 0) := (blk_cell HBK.out 1).trans rfl; have hfz0 := blk_frozen HBK.out 0; have hfz1 := blk_frozen HBK.out 1))
        | (go_at_call 16; go_loud (obtain ⟨w9, hw⟩ : ∃ W, W = (w8.setCell ⟨gc, 0, none⟩ (.int .i64 s1)).setCell ⟨gc, 1, none⟩ (.slice D7 s2.length e7) := ⟨_, rfl⟩; rw [← hw]; have hb79 : Below w7.heap.size w7 w9 := (by rw [hw]; exact below_set (below_set HBX.out (Nat.le_of_eq HGC.out.symm)) (Nat.le_of_eq HGC.out.symm)); have HB9 := Aside0.mk (below_step HT7.out hb79); have HD9 : Aside0 (w9.heap[gc]? = some (.cells #[.int .i64 s1, .slice D7 s2.length e7] 32 (0, 0))) := ⟨by rw [hw]; refine blk_put (cs := #[.int .i64 s1, .slice none 0 0]) ?_ 1 _ rfl; refine blk_put (cs := #[.int .i64 0, .slice none 0 0]) ?_ 0 _ rfl; exact HBK.out⟩; have HG9 := Aside0.mk ((hb79.block _ (blk_lt HG7.out)).trans HG7.out); have HS9 := Aside0.mk (Kd.S_mono (ok' := fun k_ => wr.heap.size ≤ k_) (Kd.S_below HS7.out hb79) (fun k_ hk_ => hk_.2.1)); have HO9 := Aside0.mk (Kd.R_below HO7.out hb79); have HZ9 := Aside0.mk hb79.size; clear hw hcz0 hcz1 hfz0 hfz1 hb79 HS7 HBX HBK HO7 HG7; refine (undercroftplain_Spoil.calls k (fun k_ => some k_ = (Value.slice D5 b.length e5).ownBlock) (Value.slice D5 b.length e5) b sp w _ HB9.out (Kd.R_lower (Kd.R_tight rfl HO9.out) (by omega)) A5.out).mono ?_; rintro e w10 ⟨rfl, _, hb10, hk10⟩; have HB10 := Aside0.mk hb10; have HG10 := Aside0.mk (blk_kept HG9.out hk10 (fun h_ => by have h1_ := HB5.out _ h_.symm; omega)); have HD10 := Aside0.mk (blk_kept HD9.out hk10 (fun h_ => by have h1_ := HL5.out _ h_.symm; have h2_ := HGC.out; have h3_ := HB7.out.size; omega)); have HS10 := Aside0.mk (Kd.S_kept HS9.out hk10 (fun k_ h1_ h2_ => by have h3_ := HL5.out _ h2_.symm; omega)); have gq0 := (blk_cell HG10.out 0).trans rfl; have gq1 := (blk_cell HG10.out 1).trans rfl; have dq0 := (blk_cell HD10.out 0).trans rfl; have dq1 := (blk_cell HD10.out 1).trans rfl; clear hb10 hk10))
        | (go_at_call 12; refine (undercroftlaw13_num.calls 0 0 _ rfl).mono ?_; rintro e w11 ⟨rfl, hd11⟩; obtain ⟨nd11, rfl⟩ := hd11.out)
        | (go_at_call 14; go_loud (refine (undercroftlaw13_Alike.calls k s1 D7 e7 s2 n A1 c1 l al _ (Kd.C_drewN (Kd.S_reads' HS10.out).2.2 _) (Kd.S_reads' HS10.out).2.1 (Kd.C_drewN (Kd.C_below HRW.out HB10.out) _) HC1.out A6.out).mono ?_; rintro e w12 ⟨rfl, hb12⟩; have HB12 := Aside0.mk (below_step (pw_below_drewN HB10.out _) hb12); clear hb12)))
      go_ret
      exact ⟨by rw [← HR_.out]; rfl, HB12.out⟩

-- NOT PRINTED: function 6 (undercroftlaw13_SegmentHolds)

end Go.Proofs.YtokjiinlhghggaaDoor.PSeg
