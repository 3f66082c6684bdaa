-- Written by a program of this session (gen.py).
import Derived.Test.YtfakjmjkodkceaaGreatDoorPImwx0
import Derived.Test.YtfakjmjkodkceaaGreatDoorPImwx5
import Derived.Test.YtfakjmjkodkceaaGreatDoorPImwx9
import Derived.Test.YtfakjmjkodkceaaGreatDoorPImwx10
import Derived.Test.YtfakjmjkodkceaaGreatDoorPImwx11
namespace Go.Proofs.YtfakjmjkodkceaaGreatDoor.PImw
open Go.RowKit Go.Proofs.YtfakjmjkodkceaaGreatDoorW.PrintWords Go.Proofs.YtfakjmjkodkceaaGreatDoorW.PrintLast Go.Proofs.YtfakjmjkodkceaaGreatDoorW.PrintMore
open Go.Proofs.YtfakjmjkodkceaaGreatDoor.Own
attribute [local go_sem high] unary_not_u32 unary_not_u64 unary_not_u8 string_leq_ string_gtr_ string_geq_
attribute [local go_sem] max2_int min2_int max_two min_two max_three min_three max_four min_four   -- for this text's walks alone
set_option linter.unusedVariables false
set_option linter.unusedSimpArgs false

/-! ### image_node: function 26 -/
/-! #### a node of its record -/
def image_node.f (k : Nat) (l0 : List Int) : Option (Int × Bool × Int × List S88 × Int × List S100 × Int) :=
 (image_opened.f k l0 1 4 2).bind fun r => if r.2.2.2 = 0 ∧ r.2.1.length = 4 ∧ r.2.2.1.length = 2 ∧ (rd r.2.1 1 = 0 ∨ rd r.2.1 1 = 1) then
  ((dir_Decode.f k (rd_L5 r.2.2.1 0)).bind fun d => if d.2 = 0 ∧ (rd_L5 r.2.2.1 1).length = 0 then some (rd r.2.1 0, rd r.2.1 1 == 1, rd r.2.1 2, d.1, rd r.2.1 3, [], 0) else none) else none
theorem image_node.mono : ∀ a0 k, LeO (image_node.f k a0) (image_node.f (k + 1) a0) := by
 intro a0 k
 unfold image_node.f
 exact LeO.bind (image_opened.mono a0 1 4 2 k) (fun r => LeO.ite (LeO.bind (dir_Decode.mono _ k) (fun _ => LeO.refl _)) (LeO.refl _))
section
open Go.Shelf
attribute [local go_sem] Oper.semAt_some
theorem chunk_in (F : Fence) (n : Nat) (h5 : F.fn 50) (hro : F.round = none) (a : Option Addr) (len cap : Nat) (w : World) :
  CallsIn F n Tryz.prog 50 #[.slice a len cap, .int .i64 33] w fun e w' => e = .returned (.func (.func 72) #[] #[.pointer (some ⟨w.heap.size, 0, none⟩), .pointer (some ⟨w.heap.size + 1, 0, none⟩)]) ∧ w' = (w.alloc (.cells #[.slice a len cap] 41)).alloc (.cells #[.int .i64 33] 3) := by
 refine callsIn_of_wp Tryz.func50 rfl h5 ?_ hro
 simp only [Tryz.ntmps50, List.size_toArray, List.length_cons, List.length_nil, Nat.reduceAdd, Nat.reduceSub, Array.replicate_succ, Array.replicate_zero, List.push_toArray, List.append_toArray, List.nil_append, List.cons_append]
 gi_wp2
 go_ret
 exact ⟨rfl, rfl⟩
/-- What a round keeps: the two boxes. -/
def ChunkK (b0 b1 : Nat) (W W' : World) : Prop := W'.cell? ⟨b0, 0, none⟩ = W.cell? ⟨b0, 0, none⟩ ∧ W'.cell? ⟨b1, 0, none⟩ = W.cell? ⟨b1, 0, none⟩
theorem ChunkK.refl (b0 b1 : Nat) (W : World) : ChunkK b0 b1 W W := ⟨rfl, rfl⟩
theorem ChunkK.trans {b0 b1 : Nat} {A B C : World} (h : ChunkK b0 b1 A B) (k : ChunkK b0 b1 B C) : ChunkK b0 b1 A C := ⟨k.1.trans h.1, k.2.trans h.2⟩
end
section
open Go.Shelf
attribute [local go_sem] Oper.semAt_some
set_option maxRecDepth 100000 in
set_option maxHeartbeats 4000000 in
theorem chunk0_in (F : Fence) (n : Nat) (h7 : F.fn 72) (hro : F.round = none) (l b0 b1 cap : Nat) (T : Option Addr)
  (W : World) (hs : W.cell? ⟨b0, 0, none⟩ = some (.slice T 0 cap)) (h6 : W.cell? ⟨b1, 0, none⟩ = some (.int .i64 33)) :
  CallsIn F n Tryz.prog 72 #[.func (.yield l) #[] #[], .pointer (some ⟨b0, 0, none⟩), .pointer (some ⟨b1, 0, none⟩)] W fun e W' => (∃ v, e = .returned v) ∧ W' = W := by
 refine callsIn_of_wp Tryz.func72 rfl h7 ?_ hro
 simp only [Tryz.ntmps72, List.size_toArray, List.length_cons, List.length_nil, Nat.reduceAdd, Nat.reduceSub, Array.replicate_succ, Array.replicate_zero, List.push_toArray, List.append_toArray, List.nil_append, List.cons_append]
 gi_wp2
 gi_loopw [4] (fun i wr => i = .int .i64 0 ∧ wr = W)
  (fun i _ => 0)
 case atStart => exact ⟨rfl, rfl⟩
 case round =>
  obtain ⟨rfl, rfl⟩ := hrel
  gi_wp2
  go_end0
  exact ⟨⟨_, rfl⟩, rfl⟩
end
def NoP (Q : Exit → Act → World → Prop) : Exit → Act → World → Prop
 | .panic _, _, _ => False
 | e, a, w => Q e a w
theorem NoP.ret {Q : Exit → Act → World → Prop} {a : Act} {w : World} (h : Q .ret a w) : NoP Q .ret a w := h
theorem NoP.imp {Q : Exit → Act → World → Prop} : ∀ (e : Exit) (a : Act) (w : World), NoP Q e a w → Q e a w := fun e a w h => by
 cases e <;> first | exact h | exact (h : False).elim
theorem node_out1 {R : Ending → World → Prop} {a : Act} {W : World} {cs : Array Value} {D : Nat} (g : Nat) (h2 : a.tmps.getD 2 undef = .pointer (some ⟨g, 0, none⟩)) (hd : a.defers = [{ target := .collected D, args := #[] }]) (hK : W.heap[D]? = some (.deferred (some []))) (hD2 : g ≠ D) (hg2 : W.heap[g]? = some (.cells cs 55 (0, 0))) (hsz : cs.size = 6) (hR : R (.returned (.tuple #[.agg cs, a.tmps.getD 3 undef])) (W.putObj D (.deferred none))) :
  bodyPostM Fence.wide 6 Tryz.prog Tryz.f26 R .ret a W := by
 show LeavesInM Fence.wide 6 Tryz.prog Tryz.f26 a.tmps R a.defers .returning W
 rw [hd]
 refine ⟨by simp, .inl ⟨D, _, rfl, run_takeDeferred hK, ?_⟩⟩
 have hi : (Tryz.prog.info? 55).map (·.size) = some cs.size := by rw [hsz]; kernel_rfl
 exact ⟨_, results_ct rfl a.tmps _ g 55 cs (0, 0) _ h2 ((World.putObj_heap_other hD2).trans hg2) Tryz.underlying55 rfl hi, hR⟩
section
open Go.Shelf
attribute [local go_sem] Oper.semAt_some
theorem F_wide_n (n : Nat) {P : Program} {c : Code} {Q : Exit → Act → World → Prop} {a : Act} {w : World} (h : c.wpIn Fence.wide n P Q a w) : c.wpIn Fence.wide n P Q a w := h
/-- What the loop keeps: the blocks of cells. -/
def KeepC (A W : World) : Prop := ∀ (k : Nat) (o : Obj), A.heap[k]? = some o → o.isCells = true → W.heap[k]? = some o
theorem R_keepC {A W : World} {α : Type} {d : Kd α} {e base : Nat} {ok : Nat → Prop} {v : Value} {xs : List α} (h : d.R e A base ok v xs) (hk : KeepC A W) : d.R e W base (fun _ => True) v xs :=
 Kd.R_mono (Kd.R_step (Kd.R_bound h) (fun k hk' _ => by
  obtain ⟨_, _, _, q, _, cells, hc⟩ := hk'
  rw [hc]; exact hk k _ hc rfl)) (fun _ _ => trivial)
theorem ad_1 (ad : Addr) : ad.add 1 = ⟨ad.block, ad.off + 1, none⟩ := rfl
theorem ad_2 (ad : Addr) : ad.add 2 = ⟨ad.block, ad.off + 2, none⟩ := rfl
theorem ad_3 (ad : Addr) : ad.add 3 = ⟨ad.block, ad.off + 3, none⟩ := rfl
set_option maxHeartbeats 8000000 in
set_option maxRecDepth 100000 in
theorem node_main (k : Nat) (A0 : Option Addr) (c0 : Nat) (l0 : List Int) (kd : Int) (nums : List Int) (tx : List (List Int)) (ds : List S88) (w : World) (hr0 : Kd.C (Kd.int .u8) w A0 l0.length l0) (hc0 : l0.length ≤ c0) (hop : image_opened.f k l0 1 4 2 = some (kd, nums, tx, 0)) (h4 : nums.length = 4) (h2 : tx.length = 2) (hb1 : rd nums 1 = 0 ∨ rd nums 1 = 1) (hd : dir_Decode.f k (rd_L5 tx 0) = some (ds, 0)) (hz : (rd_L5 tx 1).length = 0) :
  Calls Tryz.prog 26 #[.slice A0 l0.length c0] w fun e w' => ∃ v1_ v2_ : Value, e = .returned (.tuple #[.agg #[.int .i64 (rd nums 0), .bool (rd nums 1 == 1), .int .i64 (rd nums 2), v1_, .int .i64 (rd nums 3), v2_], .int .i64 0]) ∧ Kd.R k88 88 w' w.heap.size (fun _ => True) v1_ ds ∧ Kd.S k100 100 w' w.heap.size (fun _ => True) v2_ [] ∧ Below w.heap.size w w' := by
 have HR0 := Aside0.mk hr0
 have HC0 := Aside0.mk hc0
 have HOP := Aside0.mk hop
 have H4 := Aside0.mk h4
 have H2 := Aside0.mk h2
 have HD := Aside0.mk hd
 have HZ := Aside0.mk hz
 obtain ⟨n0, hn0⟩ : ∃ x, x = rd nums 0 := ⟨_, rfl⟩
 obtain ⟨n1, hn1⟩ : ∃ x, x = rd nums 1 := ⟨_, rfl⟩
 obtain ⟨n2, hn2⟩ : ∃ x, x = rd nums 2 := ⟨_, rfl⟩
 obtain ⟨n3, hn3⟩ : ∃ x, x = rd nums 3 := ⟨_, rfl⟩
 have HN0 := Aside0.mk hn0
 have HN1 := Aside0.mk hn1
 have HN2 := Aside0.mk hn2
 have HN3 := Aside0.mk hn3
 have hor : (Go.bits .or .i64 n1 1 != 1) = false := by rcases hb1 with h | h <;> rw [hn1, h] <;> rfl
 rw [← hn0, ← hn1, ← hn2, ← hn3]
 clear hn0 hn1 hn2 hn3 hr0 hc0 hop h4 h2 hd hz hb1
 have hu55 := Tryz.underlying55
 have hu97 := Tryz.underlying97
 have hu53 := Tryz.underlying53
 obtain ⟨gn, hgn⟩ : ∃ g, g = w.heap.size := ⟨_, rfl⟩
 have HGN := Aside0.mk hgn
 obtain ⟨W0, hW0⟩ : ∃ W, W = w.alloc (.cells #[.int .i64 0, .bool false, .int .i64 0, .slice none 0 0, .int .i64 0, .slice none 0 0] 55) := ⟨_, rfl⟩
 have HW0 := Aside0.mk hW0
 have HB0 : Aside0 (Below w.heap.size w W0) := ⟨by rw [hW0]; exact below_alloc (Below.refl _ _) _⟩
 have HG0 : Aside0 (W0.heap[gn]? = some (.cells #[.int .i64 0, .bool false, .int .i64 0, .slice none 0 0, .int .i64 0, .slice none 0 0] 55 (0, 0))) := ⟨by rw [hW0, hgn]; exact (MapKept.heap_alloc _ _).1⟩
 clear hW0 hgn
 refine (callsIn_wide (n := 6)).1 ?_
 refine callsIn_of_wp_marks Tryz.func26 rfl trivial ?_ rfl
 simp only [Tryz.ntmps26, List.size_toArray, List.length_cons, List.length_nil, Nat.reduceAdd, Nat.reduceSub, Array.replicate_succ, Array.replicate_zero, List.push_toArray, List.append_toArray, List.nil_append, List.cons_append]
 refine wpIn_wide.2 ?_
 refine Code.wp_mono NoP.imp ?_
 go_wp2_with (first
  | (go_at_call 48; go_loud (rw [← HW0.out]; refine (image_opened.calls k A0 c0 l0 1 4 2 kd nums tx 0 W0 (Kd.C_below HR0.out HB0.out) HC0.out HOP.out).mono ?_; rintro e w1 ⟨v1, v2, rfl, hR1, hS2, hb⟩; obtain ⟨A1, c1, rfl, hc1, hC1⟩ := Kd.R_reads hR1; obtain ⟨A2, c2, rfl, hc2, hC2⟩ := Kd.S_reads hS2; rw [H4.out] at hc1 hC1; rw [H2.out] at hc2 hC2; have HR1 := Aside0.mk hR1; have HS2 := Aside0.mk hS2; have HB1 := Aside0.mk (below_step HB0.out hb); have HG1 := Aside0.mk ((hb.block gn (blk_lt HG0.out)).trans HG0.out); rw [H4.out, H2.out]; obtain ⟨W2, hW2⟩ : ∃ W, W = w1.alloc (.cells #[.int .i64 kd, .slice A1 4 c1, .slice A2 2 c2] 97) := ⟨_, rfl⟩; have hb2 : Below w1.heap.size w1 W2 := (by rw [hW2]; exact below_alloc (Below.refl _ _) _); have hCn := Kd.C_below hC1 hb2; have HCT := Aside0.mk (Kd.C_below hC2 hb2); have HR2 := Aside0.mk (Kd.R_below hR1 hb2); have HS3 := Aside0.mk (Kd.S_below hS2 hb2); have HWS := Aside0.mk (hb.size); have HB2 := Aside0.mk (below_step HB1.out hb2); have HG2 := Aside0.mk ((hb2.block gn (blk_lt HG1.out)).trans HG1.out); have HGR2 : Aside0 (W2.heap[w1.heap.size]? = some (.cells #[.int .i64 kd, .slice A1 4 c1, .slice A2 2 c2] 97 (0, 0))) := ⟨(by rw [hW2]; exact (MapKept.heap_alloc _ _).1)⟩; obtain ⟨an, he, k0⟩ := Kd.at_int hCn 0 (by decide) (by decide); subst he; have k1 := Kd.foot_int hCn 1 (by decide) (by decide); have k2 := Kd.foot_int hCn 2 (by decide) (by decide); have k3 := Kd.foot_int hCn 3 (by decide) (by decide); rw [show (0 : Int).toNat = 0 from rfl, add0, ← HN0.out] at k0; rw [show (1 : Int).toNat = 1 from rfl, ad_1, ← HN1.out] at k1; rw [show (2 : Int).toNat = 2 from rfl, ad_2, ← HN2.out] at k2; rw [show (3 : Int).toNat = 3 from rfl, ad_3, ← HN3.out] at k3; have q0 := blk_cell HGR2.out 0; have q1 := blk_cell HGR2.out 1; have q2 := blk_cell HGR2.out 2; rw [hW2] at k0 k1 k2 k3 q0 q1 q2; have HW2 := Aside0.mk hW2; clear hb hb2 hc1 hc2 HOP hCn hC1 hC2 hR1 hS2 hW2)))
 rw [← HGN.out, ← HW2.out]
 rw [← HW2.out] at k0 k1 k2 k3 q0 q1 q2
 have g0 := blk_cell HG2.out 0
 have g1 := blk_cell HG2.out 1
 have gf := blk_frozen HG2.out 0
 go_still_tail 19, (by kernel_rfl)
 change wpList _ _ _ _ _ W2.drew
 generalize hW3 : W2.drew = W3
 have HW3 := Aside0.mk hW3
 have HG3 : Aside0 (W3.heap[gn]? = some (.cells #[.int .i64 0, .bool false, .int .i64 0, .slice none 0 0, .int .i64 0, .slice none 0 0] 55 (0, 0))) := ⟨by rw [← HW3.out]; exact HG2.out⟩
 have HGR3 : Aside0 (W3.heap[w1.heap.size]? = some (.cells #[.int .i64 kd, .slice (some an) 4 c1, .slice A2 2 c2] 97 (0, 0))) := ⟨by rw [← HW3.out]; exact HGR2.out⟩
 have HS4 : Aside0 (Kd.S (Kd.slice 5 (Kd.int .u8)) 41 W3 W0.heap.size (fun _ => True) (.slice A2 tx.length c2) tx) := ⟨by rw [← HW3.out]; exact HS3.out⟩
 have HB3 : Aside0 (Below w.heap.size w W3) := ⟨by rw [← HW3.out]; exact below_drew1 HB2.out⟩
 have HGW0 : Aside0 (gn < W0.heap.size) := ⟨blk_lt HG0.out⟩
 have HGRN : Aside0 (w1.heap.size ≠ gn) := ⟨Nat.ne_of_gt (blk_lt HG1.out)⟩
 have HW3S : Aside0 (W0.heap.size ≤ W3.heap.size) := ⟨Nat.le_of_lt (Nat.lt_of_lt_of_le (Nat.lt_of_le_of_lt HWS.out (blk_lt HGR3.out)) (Nat.le_refl _))⟩
 clear hW3 k0 k1 k2 k3 q0 q1 q2 g0 g1 gf hor HG0 HG1 HG2 HGR2 HS3 HS2 HR1 HR2 HW2 HW3 HCT HB1 HB2
 clear W2
 refine wpList_store_row rfl 55 (.tmp 2) (.tmp 40) rfl gn #[.int .i64 n0, .bool (n1 == 1), .int .i64 n2, .slice none 0 0, .int .i64 n3, .slice none 0 0] rfl rfl 55 _ HG3.out (by kernel_rfl) rfl (by simp [Value.oneCell']) ?_
 generalize hW4 : W3.setRow gn #[.int .i64 n0, .bool (n1 == 1), .int .i64 n2, .slice none 0 0, .int .i64 n3, .slice none 0 0] = W4
 have HG4 : Aside0 (W4.heap[gn]? = some (.cells #[.int .i64 n0, .bool (n1 == 1), .int .i64 n2, .slice none 0 0, .int .i64 n3, .slice none 0 0] 55 (0, 0))) := ⟨by rw [← hW4]; exact setRow_heap _ _ _ _ _ _ HG3.out⟩
 have HGR4 : Aside0 (W4.heap[w1.heap.size]? = some (.cells #[.int .i64 kd, .slice (some an) 4 c1, .slice A2 2 c2] 97 (0, 0))) := ⟨by rw [← hW4, setRow_other _ _ _ _ HGRN.out]; exact HGR3.out⟩
 have HS5 : Aside0 (Kd.S (Kd.slice 5 (Kd.int .u8)) 41 W4 W0.heap.size (fun k => W0.heap.size ≤ k) (.slice A2 tx.length c2) tx) := ⟨by
  rw [← hW4]
  refine Kd.S_step (Kd.S_mono (Kd.S_bound HS4.out) (fun k hk => hk.2.1)) (fun k hk _ => ?_)
  exact setRow_other _ _ _ _ (fun e => absurd hk (by rw [e]; exact Nat.not_le.2 HGW0.out))⟩
 have HB4 : Aside0 (Below w.heap.size w W4) := ⟨by rw [← hW4]; exact below_setRow HB3.out (Nat.le_of_eq HGN.out.symm) _⟩
 have HW4S : Aside0 (W0.heap.size ≤ W4.heap.size) := ⟨by rw [← hW4, size_setRow]; exact HW3S.out⟩
 clear hW4 HG3 HGR3 HS4 HB3 HW3S
 clear W3
 obtain ⟨_, _, hC4⟩ := Kd.S_reads' HS5.out
 rw [H2.out] at hC4
 obtain ⟨at_, T0, e0, he, t0, ht0, hT0⟩ := at_L5 hC4 0 (by decide) (by decide)
 subst he
 rw [show (0 : Int).toNat = 0 from rfl, add0] at t0
 have r2 := blk_cell HGR4.out 2
 have g3 := blk_cell HG4.out 3
 have gf3 := blk_frozen HG4.out 3
 have HT0 := Aside0.mk hT0
 have HTE := Aside0.mk ht0
 clear hC4 ht0 hT0
 go_wp2_with (first
  | (go_at_call 49; go_loud (refine (dir_Decode.calls k (fun j => j < W4.heap.size) T0 e0 (rd_L5 tx 0) ds 0 W4 ⟨T0, e0, rfl, HTE.out, Kd.C_F (by exact Kd.heap_int _) HT0.out⟩ HD.out).mono ?_; rintro e w5 ⟨v, rfl, hR5, hb⟩; obtain ⟨A5, c5, rfl, hc5, _⟩ := Kd.R_reads hR5; have HR5 := Aside0.mk hR5; have HB5 := Aside0.mk hb; have HG5 := Aside0.mk ((hb.block gn (blk_lt HG4.out)).trans HG4.out); have g5 := blk_cell HG5.out 3; have gf5 := blk_frozen HG5.out 3; obtain ⟨W6, hW6⟩ : ∃ W, W = w5.setCell ⟨gn, 3, none⟩ (.slice A5 ds.length c5) := ⟨_, rfl⟩; have HW6 := Aside0.mk hW6; have HG6 : Aside0 (W6.heap[gn]? = some (.cells #[.int .i64 n0, .bool (n1 == 1), .int .i64 n2, .slice A5 ds.length c5, .int .i64 n3, .slice none 0 0] 55 (0, 0))) := ⟨(by rw [hW6]; exact blk_put (cs := #[.int .i64 n0, .bool (n1 == 1), .int .i64 n2, .slice none 0 0, .int .i64 n3, .slice none 0 0]) HG5.out 3 _ rfl)⟩; have hgr5 := (hb.block w1.heap.size (blk_lt HGR4.out)).trans HGR4.out; have hgr6 : W6.heap[w1.heap.size]? = some (.cells #[.int .i64 kd, .slice (some an) 4 c1, .slice (some at_) 2 c2] 97 (0, 0)) := (by rw [hW6]; exact (Below.heap_setCell _ _ _ _ HGRN.out).trans hgr5); have HS6 : Aside0 (Kd.S (Kd.slice 5 (Kd.int .u8)) 41 W6 W0.heap.size (fun k => W0.heap.size ≤ k) (.slice (some at_) tx.length c2) tx) := ⟨(by rw [hW6]; refine Kd.S_step (Kd.S_below HS5.out hb) (fun k hk _ => ?_); exact Below.heap_setCell _ _ _ _ (fun e => absurd hk (by rw [e]; exact Nat.not_le.2 HGW0.out)))⟩; have HR6 : Aside0 (Kd.R k88 88 W6 W4.heap.size (fun k => W4.heap.size ≤ k) (.slice A5 ds.length c5) ds) := ⟨(by rw [hW6]; refine Kd.R_step hR5 (fun k hk _ => ?_); exact Below.heap_setCell _ _ _ _ (fun e => absurd hk (by rw [e]; exact Nat.not_le.2 (Nat.lt_of_lt_of_le HGW0.out HW4S.out))))⟩; have HB6 : Aside0 (Below w.heap.size w W6) := ⟨(by rw [hW6]; exact below_set (below_step HB4.out hb) (Nat.le_of_eq HGN.out.symm))⟩; obtain ⟨_, _, hC6⟩ := Kd.S_reads' HS6.out; rw [H2.out] at hC6; obtain ⟨_, T1, e1, he6, t1, ht1, hT1⟩ := at_L5 hC6 1 (by decide) (by decide); obtain rfl := Option.some.inj he6; rw [show (1 : Int).toNat = 1 from rfl, ad_1] at t1; rw [HZ.out] at t1 ht1 hT1; have u2 := blk_cell hgr6 2; rw [hW6] at t1 u2; have HT1 := Aside0.mk hT1; have HE1 := Aside0.mk ht1; clear hR5 hb hc5 hgr5 hgr6 hC6 he6 hT1 ht1 hW6))
  | (go_at_call 50; go_loud (rw [← HW6.out]; refine (callsIn_wide.1 (chunk_in Fence.wide 5 trivial rfl _ _ _ _)).mono ?_; rintro e_ w7 ⟨rfl, rfl⟩)))
 obtain ⟨B, hB⟩ : ∃ B, B = W6.heap.size := ⟨_, rfl⟩
 have HBE := Aside0.mk hB
 have hWc := below_alloc (below_alloc (Below.refl W6.heap.size W6) (.cells #[.slice T1 0 e1] 41)) (.cells #[.int .i64 33] 3)
 have p0 : ((W6.alloc (.cells #[.slice T1 0 e1] 41)).alloc (.cells #[.int .i64 33] 3)).heap[B]? = some (.cells #[.slice T1 0 e1] 41 (0, 0)) := by
  rw [hB]; exact (Below.heap_alloc _ _ _ (by simp)).trans (MapKept.heap_alloc _ _).1
 have p1 : ((W6.alloc (.cells #[.slice T1 0 e1] 41)).alloc (.cells #[.int .i64 33] 3)).heap[B + 1]? = some (.cells #[.int .i64 33] 3 (0, 0)) := by
  have h1 := (MapKept.heap_alloc (W6.alloc (.cells #[.slice T1 0 e1] 41)) (.cells #[.int .i64 33] 3)).1
  have e1 : (W6.alloc (.cells #[.slice T1 0 e1] 41)).heap.size = W6.heap.size + 1 := by simp
  rw [e1] at h1
  rw [hB]; exact h1
 have hsz : ((W6.alloc (.cells #[.slice T1 0 e1] 41)).alloc (.cells #[.int .i64 33] 3)).heap.size = B + 2 := by rw [hB]; simp
 rw [← hB]
 generalize (W6.alloc (.cells #[.slice T1 0 e1] 41)).alloc (.cells #[.int .i64 33] 3) = Wc at *
 have HWC := Aside0.mk hWc
 have P0 := Aside0.mk p0
 have P1 := Aside0.mk p1
 have HSZ := Aside0.mk hsz
 have HBc : Aside0 (Below w.heap.size w Wc) := ⟨below_step HB6.out hWc⟩
 have HGc : Aside0 (Wc.heap[gn]? = some (.cells #[.int .i64 n0, .bool (n1 == 1), .int .i64 n2, .slice A5 ds.length c5, .int .i64 n3, .slice none 0 0] 55 (0, 0))) := ⟨(hWc.block gn (blk_lt HG6.out)).trans HG6.out⟩
 have HRc := Aside0.mk (Kd.R_below HR6.out hWc)
 have HWcS : Aside0 (w.heap.size ≤ B) := ⟨by rw [hB]; exact HB6.out.size⟩
 have HGB : Aside0 (gn < B) := ⟨by rw [hB]; exact blk_lt HG6.out⟩
 clear hWc p0 p1 hsz hB
 refine wpIn_wide.1 (F_wide_n 6 ?_)
 refine wpIn_rangeFunc_ownG (α := Fin 0) (w0 := Wc) rfl (by decide) (gf := 72) (lb := #[.pointer (some ⟨B, 0, none⟩), .pointer (some ⟨B + 1, 0, none⟩)]) rfl trivial (enters_of Tryz.func72 (by kernel_rfl) rfl)
  (encs := fun _ => #[.slice none 0 0]) (Kp := fun _ _ => True) (S := fun _ => True) (Sp := fun _ => True) (N := 0)
  ?seq (fun _ _ => trivial) (fun _ _ _ _ _ _ _ _ => trivial) (Below.refl _ _) (fun _ => rfl)
  (fun _ W => KeepC Wc W ∧ Below w.heap.size w W) (fun _ _ _ => False) ?own ?ownx ?h0
  (fun x => x.elim0) ?assign ?body ?done ?stop
 case assign => intro l x; exact x.elim0
 case body => intro l pre x; exact x.elim0
 case own =>
  exact OwnFrom.and (Own.from (fun s A A' row hs hg hr => fun k o h1 h2 => (grownBy_keeps_cells hg hr (hs k o h1 h2) h2).trans (hs k o h1 h2)) _) (ownFrom_below (Nat.le_refl _) (by rw [HSZ.out]; exact Nat.le_trans HWcS.out (Nat.le_add_right _ _)))
 case ownx =>
  intro cc
  exact Own.from (fun s A A' row hs hg hr => hs) _
 case h0 => exact ⟨fun k o h _ => h, HBc.out⟩
 case seq =>
  as_aux_lemma =>
   intro l J Jx W hW hJa hJxa hY hJ0
   have e1 : W.cell? ⟨B, 0, none⟩ = some (.slice T1 0 e1) := (hW.cell (p := ⟨B, 0, none⟩) (by show B < _; rw [HSZ.out]; omega)).trans (blk_cell P0.out 0)
   have e2 : W.cell? ⟨B + 1, 0, none⟩ = some (.int .i64 33) := (hW.cell (p := ⟨B + 1, 0, none⟩) (by show B + 1 < _; rw [HSZ.out]; omega)).trans (blk_cell P1.out 0)
   refine (chunk0_in Fence.wide 5 trivial rfl l B (B + 1) _ T1 W e1 e2).mono ?_
   rintro e W2 ⟨hv, rfl⟩
   exact ⟨hv, .inl ⟨[], trivial, hJ0⟩⟩
 case stop =>
  rintro D cc pre W hD _ hf
  exact hf.elim
 case done =>
  rintro D ys W hD _ ⟨hkc, hBw⟩ hK
  have hg := hkc gn _ HGc.out rfl
  have HGD := Aside0.mk hg
  have HKD := Aside0.mk hK
  have HBD := Aside0.mk hBw
  have HRD := Aside0.mk (R_keepC HRc.out hkc)
  have HDG : Aside0 (gn ≠ D) := ⟨by have := HGB.out; have := HSZ.out; omega⟩
  have c_0 := blk_cell hg 0
  have c_1 := blk_cell hg 1
  have c_2 := blk_cell hg 2
  have c_3 := blk_cell hg 3
  have c_4 := blk_cell hg 4
  have c_5 := blk_cell hg 5
  have HDL := Aside0.mk hD
  clear hkc hBw hK hg hD
  go_wp2_with (first
   | ((with_reducible refine gate_store (t := 55) (p := 2) rfl ?_); go_loud (refine wpList_store_row rfl 55 (.tmp 2) (.tmp 83) rfl gn #[.int .i64 n0, .bool (n1 == 1), .int .i64 n2, .slice A5 ds.length c5, .int .i64 n3, .slice none 0 0] rfl rfl 55 _ HGD.out (by kernel_rfl) rfl (by simp [Value.oneCell']) ?_; rw [setRow_self _ _ _ _ _ HGD.out])))
  refine NoP.ret ?_
  have HDW : Aside0 (w.heap.size ≤ D) := ⟨Nat.le_trans HWcS.out (Nat.le_trans (by rw [HSZ.out]; exact Nat.le_add_right _ _) HDL.out)⟩
  have hbf : Below w.heap.size w (W.putObj D (.deferred none)) := HBD.out.trans (belowK_b (w := w) (Nat.le_refl _) W D _ _ HDW.out HKD.out rfl rfl)
  refine node_out1 gn rfl rfl HKD.out HDG.out HGD.out rfl ?_
  refine ⟨_, _, rfl, ?_, Kd.S_nil _ _ _ _ _, hbf⟩
  refine Kd.R_lower (Kd.R_step (Kd.R_bound HRD.out) (fun k hk _ => ?_) |> fun h => Kd.R_mono h (fun _ _ => trivial)) (Nat.le_trans HB4.out.size (Nat.le_refl _))
  obtain ⟨_, _, _, q, _, cells, hc⟩ := hk
  refine World.putObj_heap_other (fun e => ?_)
  rw [e, HKD.out] at hc
  cases hc
end
theorem image_node.calls (k : Nat) (A0 : Option Addr) (c0 : Nat) (l0 : List Int) (r1 : Int) (r2 : Bool) (r3 : Int) (r4 : List S88) (r5 : Int) (r6 : List S100) (r7 : Int) (w : World) (hr0 : Kd.C (Kd.int .u8) w A0 l0.length l0) (hc0 : l0.length ≤ c0) (h : image_node.f k l0 = some (r1, r2, r3, r4, r5, r6, r7)) :
  Calls Tryz.prog 26 #[.slice A0 l0.length c0] w fun e w' => ∃ v1_ v2_ : Value, e = .returned (.tuple #[.agg #[.int .i64 r1, .bool r2, .int .i64 r3, v1_, .int .i64 r5, v2_], .int .i64 r7]) ∧ Kd.R k88 88 w' w.heap.size (fun _ => True) v1_ r4 ∧ Kd.S k100 100 w' w.heap.size (fun _ => True) v2_ r6 ∧ Below w.heap.size w w' := by
 unfold image_node.f at h
 obtain ⟨⟨kd, nums, tx, e⟩, h1, h⟩ := Option.bind_eq_some_iff.1 h
 simp only at h
 by_cases hc : e = 0 ∧ nums.length = 4 ∧ tx.length = 2 ∧ (rd nums 1 = 0 ∨ rd nums 1 = 1)
 ·rw [if_pos hc] at h
  obtain ⟨⟨ds, e2⟩, h2, h⟩ := Option.bind_eq_some_iff.1 h
  simp only at h
  obtain ⟨rfl, h4, h5, h6⟩ := hc
  by_cases hd : e2 = 0 ∧ (rd_L5 tx 1).length = 0
  ·rw [if_pos hd] at h
   obtain ⟨rfl, h7⟩ := hd
   injection h with h
   simp only [Prod.mk.injEq] at h
   obtain ⟨rfl, rfl, rfl, rfl, rfl, rfl, rfl⟩ := h
   exact node_main k A0 c0 l0 kd nums tx ds w hr0 hc0 h1 h4 h5 h6 h2 h7
  ·rw [if_neg hd] at h; cases h
 ·rw [if_neg hc] at h; cases h

/-! ### image_checked: function 27 -/
def image_checked.f (k : Nat) (l0_0 : List (S55)) (a0_1 : Int) : Option ((List (S55)) × Int × Int) := (fs_Check.f k l0_0 a0_1).bind fun t291 => (if t291 = 0 then (some (l0_0, a0_1, 0)) else (none))
theorem image_checked.mono : ∀ a0 a1 k, LeO (image_checked.f k a0 a1) (image_checked.f (k + 1) a0 a1) := by
 intro a0 a1 k
 unfold image_checked.f
 repeat' first
   | (with_reducible exact fs_Check.mono _ _ _)
   | (with_reducible exact LeO.refl _)
   | (with_reducible exact LeO.none _)
   | (with_reducible refine LeO.ite ?_ ?_)
   | (with_reducible refine LeO.bind ?_ (fun _ => ?_))
   | exact fs_Check.mono _ _ _
   | exact LeO.none _
   | refine LeO.ite ?_ ?_
   | refine LeO.bind ?_ (fun _ => ?_)
set_option maxHeartbeats 8000000 in
set_option maxRecDepth 100000 in
theorem image_checked.calls (k : Nat) (P0_0_ : Nat → Prop) (A0_0 : Option Addr) (c0_0 : Nat) (l0_0 : List (S55)) (a0_1 : Int) (r1 : List (S55)) (r2 : Int) (r3 : Int) (w : World) (hs0_0 : Kd.V k55 55 w w.heap.size (fun k_ => P0_0_ k_) (.slice A0_0 l0_0.length c0_0) l0_0) (h : image_checked.f k l0_0 a0_1 = some (r1, r2, r3)) :
  Calls Tryz.prog 27 #[.agg #[.slice A0_0 l0_0.length c0_0, .int .i64 a0_1]] w fun e w' => ∃ v0_ : Value, e = .returned (.tuple #[.agg #[v0_, .int .i64 r2], .int .i64 r3]) ∧ Kd.V k55 55 w' w.heap.size (fun k_ => (P0_0_ k_ ∨ w.heap.size ≤ k_)) v0_ r1 ∧ Below w.heap.size w w' := by
 have hu32 := Tryz.underlying32
 have HO0_0 := Aside0.mk (show Kd.V k55 55 w w.heap.size (fun k_ => (P0_0_ k_ ∨ w.heap.size ≤ k_)) (.slice A0_0 l0_0.length c0_0) l0_0 from Kd.V_mono hs0_0 (fun k_ hk => .inl hk))
 have HB := Aside0.mk (Below.refl w.heap.size w)
 have H : ((fs_Check.f k l0_0 a0_1).bind fun t291 => (if t291 = 0 then (some (l0_0, a0_1, 0)) else (none))) = some (r1, r2, r3) := h
 clear h
 replace H := Option.bind_eq_some_iff.mp H
 obtain ⟨t291, A20, H⟩ := H
 replace H : (if t291 = 0 then (some (l0_0, a0_1, 0)) else (none)) = some (r1, r2, r3) := H
 have A2 := Aside0.mk A20
 clear A20
 by_cases c3 : t291 = 0
 ·rw [if_pos c3] at H
  have c3b0 : (t291 == 0) = true := beq_iff_eq.mpr c3
  have c3b1 : (t291 != 0) = false := bne_eq_false_iff_eq.mpr c3
  clear c3
  simp only [Option.some.injEq, Prod.mk.injEq] at H
  obtain ⟨rfl, rfl, rfl⟩ := H
  go_enter Tryz.func27, Tryz.ntmps27
  go_wp2_with (first | ((with_reducible refine gate_dst (N := 1) rfl ?_); refine box_event ?hg (N := 1) ?hd (cs := #[.slice A0_0 l0_0.length c0_0, .int .i64 a0_1]) (t := 32) ?hr ?_; (case hd => rfl); (case hg => rfl); (case hr => first | (go_simp; done) | (go_simp; rfl)); intro gb289 hg w4 hbox hb; have n0_ := Aside0.mk (Kd.V_below (Kd.V_elderB (by (with_reducible repeat (first | apply Kd.V_alloc | apply Kd.V_drewN | apply Kd.V_drew)); exact HO0_0.out) gb289 (Nat.le_of_eq hg.symm)) hb); have n1_ := Aside0.mk (below_step (by repeat (first | (with_reducible first | exact HB.out | apply below_alloc | apply pw_below_drewN | apply below_drew1) | exact HB.out)) hb); have n2_ := Aside0.mk (hbox); have n3_ := Aside0.mk ((by rw [hg]; exact (below_size (by repeat (first | (with_reducible first | exact HB.out | apply below_alloc | apply pw_below_drewN | apply below_drew1) | exact HB.out))) : w.heap.size ≤ gb289)); have n4_ := Aside0.mk ((by rw [hg]; exact (below_size (by repeat (first | (with_reducible first | exact HB.out | apply below_alloc | apply pw_below_drewN | apply below_drew1) | exact HB.out))) : w.heap.size ≤ gb289)); clear HO0_0; clear HB; have HO0_0 := n0_; have HB := n1_; have BK289 := n2_; have GW289 := n3_; have GE289 := n4_; clear n0_ n1_ n2_ n3_ n4_; clear hb hbox hg) | ((with_reducible refine gate_dst (N := 2) rfl ?_); refine box_event ?hg (N := 2) ?hd (cs := #[.slice none 0 0, .int .i64 0]) (t := 32) ?hr ?_; (case hd => rfl); (case hg => rfl); (case hr => first | (go_simp; done) | (go_simp; rfl)); intro gb290 hg w5 hbox hb; have n0_ := Aside0.mk (Kd.V_below (Kd.V_elderB (by (with_reducible repeat (first | apply Kd.V_alloc | apply Kd.V_drewN | apply Kd.V_drew)); exact HO0_0.out) gb290 (Nat.le_of_eq hg.symm)) hb); have n1_ := Aside0.mk (blk_below (g := gb289) (o := .cells #[.slice A0_0 l0_0.length c0_0, .int .i64 a0_1] 32 (0, 0)) (by (with_reducible repeat (first | refine blk_drewN ?_ _ | refine blk_drew ?_ | refine blk_alloc ?_ _)); exact BK289.out) hb); have n2_ := Aside0.mk (below_step (by repeat (first | (with_reducible first | exact HB.out | apply below_alloc | apply pw_below_drewN | apply below_drew1 | refine below_set ?_ GE289.out) | exact HB.out)) hb); have n3_ := Aside0.mk (hbox); have n4_ := Aside0.mk ((by rw [hg]; exact (below_size (by repeat (first | (with_reducible first | exact HB.out | apply below_alloc | apply pw_below_drewN | apply below_drew1 | refine below_set ?_ GE289.out) | exact HB.out))) : w.heap.size ≤ gb290)); have n5_ := Aside0.mk ((by rw [hg]; exact (below_size (by repeat (first | (with_reducible first | exact HB.out | apply below_alloc | apply pw_below_drewN | apply below_drew1 | refine below_set ?_ GE289.out) | exact HB.out))) : w.heap.size ≤ gb290)); have n6_ := Aside0.mk ((by rw [hg]; exact Nat.ne_of_lt (blk_lt (g := gb289) (o := .cells #[.slice A0_0 l0_0.length c0_0, .int .i64 a0_1] 32 (0, 0)) (by (with_reducible repeat (first | refine blk_drewN ?_ _ | refine blk_drew ?_ | refine blk_alloc ?_ _)); exact BK289.out)) : gb289 ≠ gb290)); have n7_ := Aside0.mk ((by rw [hg]; exact Nat.ne_of_gt (blk_lt (g := gb289) (o := .cells #[.slice A0_0 l0_0.length c0_0, .int .i64 a0_1] 32 (0, 0)) (by (with_reducible repeat (first | refine blk_drewN ?_ _ | refine blk_drew ?_ | refine blk_alloc ?_ _)); exact BK289.out)) : gb290 ≠ gb289)); clear HO0_0; clear BK289; clear HB; have HO0_0 := n0_; have BK289 := n1_; have HB := n2_; have BK290 := n3_; have GW290 := n4_; have GE290 := n5_; have NB289_290 := n6_; have NB290_289 := n7_; clear n0_ n1_ n2_ n3_ n4_ n5_ n6_ n7_; clear hb hbox hg; have hnb6 := NB289_290.out; have hnc6 := NB290_289.out; have hcz7_0 : w5.cell? ⟨gb289, 0, none⟩ = some (.slice A0_0 l0_0.length c0_0) := (blk_cell BK289.out 0).trans rfl; have hcz7_1 : w5.cell? ⟨gb289, 1, none⟩ = some (.int .i64 a0_1) := (blk_cell BK289.out 1).trans rfl; have hfz7_0 := blk_frozen BK289.out 0; have hfz7_1 := blk_frozen BK289.out 1) | ((with_reducible refine gate_callee (f := 17) rfl ?_); refine goesL_ (some 6) rfl rfl Tryz.func17 (by kernel_rfl) rfl #[.agg #[.slice A0_0 l0_0.length c0_0, .int .i64 a0_1]] rfl (by (try simp only [List.map_toArray, List.map_cons, List.map_nil]); first | done | rfl | (simp only [List.length_drop, List.length_take]; rfl)) ?_; (with_reducible refine (fs_Check.calls k _ _ l0_0 a0_1 t291 _ ?side1 ?side2 A2.out).mono ?_); (case side1 => repeat (first | exact (Kd.V_reads' HO0_0.out).2.2 | (with_reducible refine Kd.C_alloc ?_ _) | (with_reducible refine Kd.C_drewN ?_ _) | (with_reducible refine Kd.C_drew ?_))); (case side2 => exact (Kd.V_reads' HO0_0.out).2.1); rintro e w8 ⟨rfl, hb⟩; refine ⟨_, rfl, ?_⟩; have n0_ := Aside0.mk (Kd.V_below (by (with_reducible repeat (first | apply Kd.V_alloc | apply Kd.V_drewN | apply Kd.V_drew)); exact HO0_0.out) hb); have n1_ := Aside0.mk (blk_below (g := gb289) (o := .cells #[.slice A0_0 l0_0.length c0_0, .int .i64 a0_1] 32 (0, 0)) (by (with_reducible repeat (first | refine blk_drewN ?_ _ | refine blk_drew ?_ | refine blk_alloc ?_ _)); exact BK289.out) hb); have n2_ := Aside0.mk (blk_below (g := gb290) (o := .cells #[.slice none 0 0, .int .i64 0] 32 (0, 0)) (by (with_reducible repeat (first | refine blk_drewN ?_ _ | refine blk_drew ?_ | refine blk_alloc ?_ _)); exact BK290.out) hb); have n3_ := Aside0.mk (below_step (by repeat (first | (with_reducible first | exact HB.out | apply below_alloc | apply pw_below_drewN | apply below_drew1 | refine below_set ?_ GE289.out | refine below_set ?_ GE290.out) | exact HB.out)) hb); clear HO0_0; clear BK289; clear BK290; clear HB; have HO0_0 := n0_; have BK289 := n1_; have BK290 := n2_; have HB := n3_; clear n0_ n1_ n2_ n3_; (try clear hb); (try clear hb2); (try clear hk); (try clear hi); have hcz9_0 : w8.cell? ⟨gb289, 0, none⟩ = some (.slice A0_0 l0_0.length c0_0) := (blk_cell BK289.out 0).trans rfl; have hcz9_1 : w8.cell? ⟨gb289, 1, none⟩ = some (.int .i64 a0_1) := (blk_cell BK289.out 1).trans rfl; have hfz9_0 := blk_frozen BK289.out 0; have hfz9_1 := blk_frozen BK289.out 1; have hcz10_0 : w8.cell? ⟨gb290, 0, none⟩ = some (.slice none 0 0) := (blk_cell BK290.out 0).trans rfl; have hcz10_1 : w8.cell? ⟨gb290, 1, none⟩ = some (.int .i64 0) := (blk_cell BK290.out 1).trans rfl; have hfz10_0 := blk_frozen BK290.out 0; have hfz10_1 := blk_frozen BK290.out 1))
  refine bodyPost_ret (results_ct rfl _ _ gb290 32 #[.slice A0_0 l0_0.length c0_0, .int .i64 a0_1] (0, 0) _ rfl (by (with_reducible repeat (first | refine blk_drewN ?_ _ | refine blk_drew ?_ | refine blk_alloc ?_ _)); refine blk_put (cs := #[.slice A0_0 l0_0.length c0_0, .int .i64 0]) ?_ 1 _ rfl; (with_reducible repeat (first | refine blk_drewN ?_ _ | refine blk_drew ?_ | refine blk_alloc ?_ _)); refine blk_put (cs := #[.slice none 0 0, .int .i64 0]) ?_ 0 _ rfl; (with_reducible repeat (first | refine blk_drewN ?_ _ | refine blk_drew ?_ | refine blk_alloc ?_ _)); exact BK290.out) Tryz.underlying32 rfl (by kernel_rfl)) rfl ?_
  exact ⟨_, by first | rfl | (simp [errW_none, errW_some] <;> rfl) | (simp [*, errW_none, errW_some] <;> rfl) | (exfalso; simp only [beq_iff_eq, decide_eq_true_eq] at *; omega), by (with_reducible repeat (first | apply Kd.V_alloc | apply Kd.V_drewN | apply Kd.V_drew)); exact Kd.V_mono (Kd.V_far (p := ⟨gb290, 1, none⟩) (Kd.V_far (p := ⟨gb290, 0, none⟩) (Kd.V_mono HO0_0.out (fun k_ hk => (⟨hk, hk.2⟩ : _ ∧ k_ ≠ gb290))) (fun _ hk => hk.2) (.slice A0_0 l0_0.length c0_0)) (fun _ hk => hk.2) (.int .i64 a0_1)) (fun _ hk => hk.1.1.1), by repeat (first | (with_reducible first | exact HB.out | apply below_alloc | apply pw_below_drewN | apply below_drew1 | refine below_set ?_ GE289.out | refine below_set ?_ GE290.out) | exact HB.out)⟩
 ·rw [if_neg c3] at H
  exact absurd H (by simp)
/-! ### image_Decode: function 11 -/
def image_Decode.l0 : Nat → List (List Int) → Int → Int → List (S55) → Int → Option ((List (S55)) × Int × Int)
 | 0, _, _, _, _, _ => none
 | k + 1, x33, x34, x35, x303000, x303001 => if x35 < x34 then (if 0 ≤ x35 then (if x35 < (x33.length : Int) then ((image_node.f k (rd_L5 x33 x35)).bind fun bt304 => (if bt304.2.2.2.2.2.2 = 0 then (if x303000.length < 1759218604441 then (image_Decode.l0 k x33 x34 (wrap64 (x35 + 1)) (x303000 ++ [(⟨bt304.1, bt304.2.1, bt304.2.2.1, bt304.2.2.2.1, (⟨bt304.2.2.2.2.1, bt304.2.2.2.2.2.1⟩ : S53)⟩ : S55)]) x303001) else (none)) else (none))) else (none)) else (none)) else ((image_checked.f k x303000 x303001).bind fun bt319 => (some (bt319.1, bt319.2.1, bt319.2.2)))
def image_Decode.f (k : Nat) (l0 : List (List Int)) : Option ((List (S55)) × Int × Int) := (image_head.f k l0 2).bind fun bt293 => (if bt293.2.2 = 0 then (if 1 < (bt293.1.length : Int) then (if (rd bt293.1 1) = (bt293.2.1.length : Int) then (if 0 < (bt293.1.length : Int) then (image_Decode.l0 k bt293.2.1 (bt293.2.1.length : Int) 0 ([] : List (S55)) (rd bt293.1 0)) else (none)) else (some (([] : List (S55)), 0, 3))) else (none)) else (none))
theorem image_Decode.mono_l : ∀ k, (∀ y0 y1 y2 y3 y4, LeO (image_Decode.l0 k y0 y1 y2 y3 y4) (image_Decode.l0 (k + 1) y0 y1 y2 y3 y4))
 | 0 => fun _ _ _ _ _ r h => by simp [image_Decode.l0] at h
 | k + 1 => by
  have ih0 := image_Decode.mono_l k
  ·intro y0 y1 y2 y3 y4
   unfold image_Decode.l0
   repeat' first
   | (with_reducible exact ih0 _ _ _ _ _)
   | (with_reducible exact image_checked.mono _ _ _)
   | (with_reducible exact image_head.mono _ _ _)
   | (with_reducible exact image_node.mono _ _)
   | (with_reducible exact LeO.refl _)
   | (with_reducible exact LeO.none _)
   | (with_reducible refine LeO.ite ?_ ?_)
   | (with_reducible refine LeO.bind ?_ (fun _ => ?_))
   | exact ih0 _ _ _ _ _
   | exact image_checked.mono _ _ _
   | exact image_head.mono _ _ _
   | exact image_node.mono _ _
   | exact LeO.none _
   | refine LeO.ite ?_ ?_
   | refine LeO.bind ?_ (fun _ => ?_)
theorem image_Decode.mono : ∀ a0 k, LeO (image_Decode.f k a0) (image_Decode.f (k + 1) a0) := by
 intro a0 k
 have ih0 := image_Decode.mono_l k
 unfold image_Decode.f
 repeat' first
   | (with_reducible exact ih0 _ _ _ _ _)
   | (with_reducible exact image_checked.mono _ _ _)
   | (with_reducible exact image_head.mono _ _ _)
   | (with_reducible exact image_node.mono _ _)
   | (with_reducible exact LeO.refl _)
   | (with_reducible exact LeO.none _)
   | (with_reducible refine LeO.ite ?_ ?_)
   | (with_reducible refine LeO.bind ?_ (fun _ => ?_))
   | exact ih0 _ _ _ _ _
   | exact image_checked.mono _ _ _
   | exact image_head.mono _ _ _
   | exact image_node.mono _ _
   | exact LeO.none _
   | refine LeO.ite ?_ ?_
   | refine LeO.bind ?_ (fun _ => ?_)
set_option maxHeartbeats 8000000 in
set_option maxRecDepth 100000 in
theorem image_Decode.calls (k : Nat) (P0_ : Nat → Prop) (A0 : Option Addr) (c0 : Nat) (l0 : List (List Int)) (r1 : List (S55)) (r2 : Int) (r3 : Int) (w : World) (hs0 : Kd.V (Kd.slice 5 (Kd.int .u8)) 41 w w.heap.size (fun k_ => P0_ k_) (.slice A0 l0.length c0) l0) (h : image_Decode.f k l0 = some (r1, r2, r3)) :
  Calls Tryz.prog 11 #[.slice A0 l0.length c0] w fun e w' => ∃ v0_ : Value, e = .returned (.tuple #[.agg #[v0_, .int .i64 r2], .int .i64 r3]) ∧ Kd.V k55 55 w' w.heap.size (fun k_ => (P0_ k_ ∨ w.heap.size ≤ k_)) v0_ r1 ∧ Below w.heap.size w w' := by
 have hu32 := Tryz.underlying32
 have hu55 := Tryz.underlying55
 have HO0 := Aside0.mk (show Kd.V (Kd.slice 5 (Kd.int .u8)) 41 w w.heap.size (fun k_ => (P0_ k_ ∨ w.heap.size ≤ k_)) (.slice A0 l0.length c0) l0 from Kd.V_mono hs0 (fun k_ hk => .inl hk))
 have HB := Aside0.mk (Below.refl w.heap.size w)
 have H : ((image_head.f k l0 2).bind fun bt293 => (if bt293.2.2 = 0 then (if 1 < (bt293.1.length : Int) then (if (rd bt293.1 1) = (bt293.2.1.length : Int) then (if 0 < (bt293.1.length : Int) then (image_Decode.l0 k bt293.2.1 (bt293.2.1.length : Int) 0 ([] : List (S55)) (rd bt293.1 0)) else (none)) else (some (([] : List (S55)), 0, 3))) else (none)) else (none))) = some (r1, r2, r3) := h
 clear h
 replace H := Option.bind_eq_some_iff.mp H
 obtain ⟨⟨t293, t296, t299⟩, A20, H⟩ := H
 replace H : (if t299 = 0 then (if 1 < (t293.length : Int) then (if (rd t293 1) = (t296.length : Int) then (if 0 < (t293.length : Int) then (image_Decode.l0 k t296 (t296.length : Int) 0 ([] : List (S55)) (rd t293 0)) else (none)) else (some (([] : List (S55)), 0, 3))) else (none)) else (none)) = some (r1, r2, r3) := H
 have A2 := Aside0.mk A20
 clear A20
 by_cases c3 : t299 = 0
 ·rw [if_pos c3] at H
  have c3b0 : (t299 == 0) = true := beq_iff_eq.mpr c3
  have c3b1 : (t299 != 0) = false := bne_eq_false_iff_eq.mpr c3
  clear c3
  by_cases c4 : 1 < (t293.length : Int)
  ·rw [if_pos c4] at H
   have c4b0 : decide (1 < (t293.length : Int)) = true := decide_eq_true c4
   have c4b1 : decide (1 < t293.length) = true := decide_eq_true (by omega)
   clear c4
   by_cases c5 : (rd t293 1) = (t296.length : Int)
   ·rw [if_pos c5] at H
    have c5b0 : ((rd t293 1) == (t296.length : Int)) = true := beq_iff_eq.mpr c5
    have c5b1 : ((rd t293 1) != (t296.length : Int)) = false := bne_eq_false_iff_eq.mpr c5
    clear c5
    by_cases c6 : 0 < (t293.length : Int)
    ·rw [if_pos c6] at H
     have c6b0 : decide (0 < (t293.length : Int)) = true := decide_eq_true c6
     have c6b1 : decide (0 < t293.length) = true := decide_eq_true (by omega)
     clear c6
     have H' := Aside0.mk H
     clear H
     go_enter Tryz.func11, Tryz.ntmps11
     go_wp2_with (first | ((with_reducible refine gate_dst (N := 2) rfl ?_); refine box_event ?hg (N := 2) ?hd (cs := #[.slice none 0 0, .int .i64 0]) (t := 32) ?hr ?_; (case hd => rfl); (case hg => rfl); (case hr => first | (go_simp; done) | (go_simp; rfl)); intro gb292 hg w7 hbox hb; have n0_ := Aside0.mk (Kd.V_below (Kd.V_elderB (by (with_reducible repeat (first | apply Kd.V_alloc | apply Kd.V_drewN | apply Kd.V_drew)); exact HO0.out) gb292 (Nat.le_of_eq hg.symm)) hb); have n1_ := Aside0.mk (below_step (by repeat (first | (with_reducible first | exact HB.out | apply below_alloc | apply pw_below_drewN | apply below_drew1) | exact HB.out)) hb); have n2_ := Aside0.mk (hbox); have n3_ := Aside0.mk ((by rw [hg]; exact (below_size (by repeat (first | (with_reducible first | exact HB.out | apply below_alloc | apply pw_below_drewN | apply below_drew1) | exact HB.out))) : w.heap.size ≤ gb292)); have n4_ := Aside0.mk ((by rw [hg]; exact (below_size (by repeat (first | (with_reducible first | exact HB.out | apply below_alloc | apply pw_below_drewN | apply below_drew1) | exact HB.out))) : w.heap.size ≤ gb292)); clear HO0; clear HB; have HO0 := n0_; have HB := n1_; have BK292 := n2_; have GW292 := n3_; have GE292 := n4_; clear n0_ n1_ n2_ n3_ n4_; clear hb hbox hg) | ((with_reducible refine gate_callee (f := 25) rfl ?_); refine goesL_ (some 14) rfl rfl Tryz.func25 (by kernel_rfl) rfl #[.slice A0 l0.length c0, .int .i64 2] rfl (by (try simp only [List.map_toArray, List.map_cons, List.map_nil]); first | done | rfl | (simp only [List.length_drop, List.length_take]; rfl)) ?_; (with_reducible refine (image_head.calls k (fun k_ => ((P0_ k_ ∨ w.heap.size ≤ k_) ∧ k_ ≠ gb292)) _ _ l0 2 t293 t296 t299 _ ?side1 A2.out).mono ?_); (case side1 => exact HO0.out); rintro e w8 ⟨v294, v297, rfl, ho0, ho1, hb⟩; refine ⟨_, rfl, ?_⟩; have n0_ := Aside0.mk (Kd.V_elder' (by (with_reducible repeat (first | apply Kd.V_alloc | apply Kd.V_drewN | apply Kd.V_drew)); exact HO0.out) (Kd.R_base ho0) hb); have n1_ := Aside0.mk (Kd.R_lower (Kd.R_newM (M := fun k_ => (w.heap.size ≤ k_)) (Kd.R_mono (ok' := fun k_ => True) ho0 (fun _ hk_ => trivial)) (below_size (by repeat (first | (with_reducible first | exact HB.out | apply below_alloc | apply pw_below_drewN | apply below_drew1 | refine below_set ?_ GE292.out) | exact HB.out))) (fun k_ h_ => h_)) (below_size (by repeat (first | (with_reducible first | exact HB.out | apply below_alloc | apply pw_below_drewN | apply below_drew1 | refine below_set ?_ GE292.out) | exact HB.out)))); have n2_ := Aside0.mk (Kd.V_lower (Kd.V_mono (ok' := fun k_ => (P0_ k_ ∨ w.heap.size ≤ k_) ∧ some k_ ≠ (v294 : Value).ownBlock ∧ k_ ≠ gb292) ho1 (fun k_ hk_ => ⟨Or.elim hk_.1 (fun hs_ => hs_.1) (fun hn_ => (.inr (Nat.le_trans (below_size (by repeat (first | (with_reducible first | exact HB.out | apply below_alloc | apply pw_below_drewN | apply below_drew1 | refine below_set ?_ GE292.out) | exact HB.out))) hn_))), hk_.2, Or.elim hk_.1 (fun hs_ => hs_.2) (fun hn_ => (Kd.freshB (g := gb292) (o := .cells #[.slice none 0 0, .int .i64 0] 32 (0, 0)) (by (with_reducible repeat (first | refine blk_drewN ?_ _ | refine blk_drew ?_ | refine blk_alloc ?_ _)); exact BK292.out) k_ hn_))⟩)) (below_size (by repeat (first | (with_reducible first | exact HB.out | apply below_alloc | apply pw_below_drewN | apply below_drew1 | refine below_set ?_ GE292.out) | exact HB.out)))); have n3_ := Aside0.mk (blk_below (g := gb292) (o := .cells #[.slice none 0 0, .int .i64 0] 32 (0, 0)) (by (with_reducible repeat (first | refine blk_drewN ?_ _ | refine blk_drew ?_ | refine blk_alloc ?_ _)); exact BK292.out) hb); have n4_ := Aside0.mk (below_step (by repeat (first | (with_reducible first | exact HB.out | apply below_alloc | apply pw_below_drewN | apply below_drew1 | refine below_set ?_ GE292.out) | exact HB.out)) hb); clear HO0; clear BK292; clear HB; have HO0 := n0_; have HO295 := n1_; have HO298 := n2_; have BK292 := n3_; have HB := n4_; clear n0_ n1_ n2_ n3_ n4_; (try clear hb); (try clear hb2); (try clear hk); (try clear hi); (try clear ho0); (try clear ho1); obtain ⟨Ao9, co9, eo9⟩ := Kd.R_slice HO295.out; subst eo9; have p300 : 0 ≤ (1 : Int) := (by omega); have q300 : 1 < (t293.length : Int) := of_decide_eq_true (by first | (with_reducible assumption) | assumption); obtain ⟨ad300, e300, hx300_0⟩ := Kd.at_int (Kd.R_reads' HO295.out).2.2 1 p300 q300; cases e300; (try simp only [show (1 : Int).toNat = 1 from rfl, Nat.reduceMul, Nat.reduceEqDiff, Go.Addr.add, ↓reduceIte] at hx300_0); have qi300 : (1 < t293.length) = True := eq_true (by omega); (try rw [show ((1 : Int)).toNat = 1 from rfl] at hx300_0); replace p300 := eq_true p300; replace q300 := eq_true q300; obtain ⟨Ao10, co10, eo10⟩ := Kd.V_slice HO298.out; subst eo10; have p301 : 0 ≤ (0 : Int) := (by omega); have q301 : 0 < (t293.length : Int) := of_decide_eq_true (by first | (with_reducible assumption) | assumption); obtain ⟨ad301, e301, hx301_0⟩ := Kd.at_int (Kd.R_reads' HO295.out).2.2 0 p301 q301; obtain rfl : ad300 = ad301 := (by injection e301); have qi301 : (0 < t293.length) = True := eq_true (by omega); (try rw [show ((0 : Int)).toNat = 0 from rfl] at hx301_0); (try rw [Addr.add_zero'] at hx301_0); replace p301 := eq_true p301; replace q301 := eq_true q301) | ((with_reducible refine gate_dst (N := 7) rfl ?_); refine box_event ?hg (N := 7) ?hd (cs := #[.slice none 0 0, .int .i64 0]) (t := 32) ?hr ?_; (case hd => rfl); (case hg => rfl); (case hr => first | (go_simp; done) | (go_simp; rfl)); intro gb302 hg w11 hbox hb; have n0_ := Aside0.mk (Kd.V_below (Kd.V_elderB (by (with_reducible repeat (first | apply Kd.V_alloc | apply Kd.V_drewN | apply Kd.V_drew)); exact HO0.out) gb302 (Nat.le_of_eq hg.symm)) hb); have n1_ := Aside0.mk (Kd.R_below (by (with_reducible repeat (first | apply Kd.R_alloc | apply Kd.R_drewN | apply Kd.R_drew)); exact HO295.out) hb); have n2_ := Aside0.mk (Kd.V_below (Kd.V_elderB (by (with_reducible repeat (first | apply Kd.V_alloc | apply Kd.V_drewN | apply Kd.V_drew)); exact HO298.out) gb302 (Nat.le_of_eq hg.symm)) hb); have n3_ := Aside0.mk (blk_below (g := gb292) (o := .cells #[.slice none 0 0, .int .i64 0] 32 (0, 0)) (by (with_reducible repeat (first | refine blk_drewN ?_ _ | refine blk_drew ?_ | refine blk_alloc ?_ _)); exact BK292.out) hb); have n4_ := Aside0.mk (below_step (by repeat (first | (with_reducible first | exact HB.out | apply below_alloc | apply pw_below_drewN | apply below_drew1 | refine below_set ?_ GE292.out) | exact HB.out)) hb); have n5_ := Aside0.mk (hbox); have n6_ := Aside0.mk ((by rw [hg]; exact (below_size (by repeat (first | (with_reducible first | exact HB.out | apply below_alloc | apply pw_below_drewN | apply below_drew1 | refine below_set ?_ GE292.out) | exact HB.out))) : w.heap.size ≤ gb302)); have n7_ := Aside0.mk ((by rw [hg]; exact (below_size (by repeat (first | (with_reducible first | exact HB.out | apply below_alloc | apply pw_below_drewN | apply below_drew1 | refine below_set ?_ GE292.out) | exact HB.out))) : w.heap.size ≤ gb302)); have n8_ := Aside0.mk ((by rw [hg]; exact Nat.ne_of_lt (blk_lt (g := gb292) (o := .cells #[.slice none 0 0, .int .i64 0] 32 (0, 0)) (by (with_reducible repeat (first | refine blk_drewN ?_ _ | refine blk_drew ?_ | refine blk_alloc ?_ _)); exact BK292.out)) : gb292 ≠ gb302)); have n9_ := Aside0.mk ((by rw [hg]; exact Nat.ne_of_gt (blk_lt (g := gb292) (o := .cells #[.slice none 0 0, .int .i64 0] 32 (0, 0)) (by (with_reducible repeat (first | refine blk_drewN ?_ _ | refine blk_drew ?_ | refine blk_alloc ?_ _)); exact BK292.out)) : gb302 ≠ gb292)); clear HO0; clear HO295; clear HO298; clear BK292; clear HB; have HO0 := n0_; have HO295 := n1_; have HO298 := n2_; have BK292 := n3_; have HB := n4_; have BK302 := n5_; have GW302 := n6_; have GE302 := n7_; have NB292_302 := n8_; have NB302_292 := n9_; clear n0_ n1_ n2_ n3_ n4_ n5_ n6_ n7_ n8_ n9_; clear hb hbox hg; have hnb12 := NB302_292.out; have hnc12 := NB292_302.out; have hcz13_0 : w11.cell? ⟨gb302, 0, none⟩ = some (.slice none 0 0) := (blk_cell BK302.out 0).trans rfl; have hcz13_1 : w11.cell? ⟨gb302, 1, none⟩ = some (.int .i64 0) := (blk_cell BK302.out 1).trans rfl; have hfz13_0 := blk_frozen BK302.out 0; have hfz13_1 := blk_frozen BK302.out 1))
     go_loopg [35] k (fun kq v35 w' => ∃ (x35_1 : Int) (x293001_1 : Int) (x303000_1 : List (S55)) (u303000 : Value), v35 = .int .i64 x35_1 ∧ Aside0 (image_Decode.l0 kq t296 (t296.length : Int) x35_1 x303000_1 (rd t293 0) = some (r1, r2, r3)) ∧ Aside0 (kq ≤ k) ∧ Aside0 (Kd.V (Kd.slice 5 (Kd.int .u8)) 41 w' w.heap.size (fun k_ => (P0_ k_ ∨ w.heap.size ≤ k_) ∧ some k_ ≠ (u303000 : Value).ownBlock ∧ k_ ≠ gb292 ∧ k_ ≠ gb302) (.slice Ao10 t296.length co10) t296) ∧ Aside0 (Kd.R k55 55 w' w.heap.size (fun k_ => (w.heap.size ≤ k_)) u303000 x303000_1) ∧ Aside0 (w'.heap[gb292]? = some (.cells #[(.slice none 0 0), .int .i64 x293001_1] 32 (0, 0))) ∧ Aside0 (w'.heap[gb302]? = some (.cells #[u303000, .int .i64 (rd t293 0)] 32 (0, 0))) ∧ Aside0 (Below w.heap.size w w'))
     case atStart => exact ⟨(0), (0), (([] : List (S55))), (.slice none 0 0), (by first | rfl | (simp; done) | (simp [*]; done)), H', ⟨Nat.le_refl _⟩, ⟨by (with_reducible repeat (first | apply Kd.V_alloc | apply Kd.V_drewN | apply Kd.V_drew)); exact Kd.V_mono (Kd.V_far (p := ⟨gb302, 1, none⟩) (Kd.V_far (p := ⟨gb302, 0, none⟩) (Kd.V_mono HO298.out (fun k_ hk => (⟨hk, hk.2⟩ : _ ∧ k_ ≠ gb302))) (fun _ hk => hk.2) (.slice none 0 0)) (fun _ hk => hk.2) (.int .i64 (rd t293 0))) (fun _ hk => ⟨hk.1.1.1, ⟨(by simp [Value.ownBlock]), ⟨hk.1.1.2.2, hk.1.2⟩⟩⟩)⟩, ⟨by first | exact Kd.R_nil _ _ _ _ _ | exact Kd.N_nil _ _ _ _ _ | exact Kd.V_nil _ _ _ _ _ | exact Kd.Q_nil _ _ _ _ _ | exact Kd.S_nil _ _ _ _ _⟩, ⟨by (with_reducible repeat (first | refine blk_drewN ?_ _ | refine blk_drew ?_ | refine blk_alloc ?_ _)); refine blk_far ?_ NB292_302.out _; (with_reducible repeat (first | refine blk_drewN ?_ _ | refine blk_drew ?_ | refine blk_alloc ?_ _)); refine blk_far ?_ NB292_302.out _; (with_reducible repeat (first | refine blk_drewN ?_ _ | refine blk_drew ?_ | refine blk_alloc ?_ _)); exact BK292.out⟩, ⟨by (with_reducible repeat (first | refine blk_drewN ?_ _ | refine blk_drew ?_ | refine blk_alloc ?_ _)); refine blk_put (cs := #[.slice none 0 0, .int .i64 0]) ?_ 1 _ rfl; (with_reducible repeat (first | refine blk_drewN ?_ _ | refine blk_drew ?_ | refine blk_alloc ?_ _)); refine blk_put (cs := #[.slice none 0 0, .int .i64 0]) ?_ 0 _ rfl; (with_reducible repeat (first | refine blk_drewN ?_ _ | refine blk_drew ?_ | refine blk_alloc ?_ _)); exact BK302.out⟩, ⟨by repeat (first | (with_reducible first | exact HB.out | apply below_alloc | apply pw_below_drewN | apply below_drew1 | refine below_set ?_ GE292.out | refine below_set ?_ GE302.out) | exact HB.out)⟩⟩
     case round =>
      clear H'
      try clear c1
      try clear c2
      try clear p2
      try clear c3
      try clear c3b0
      try clear c3b1
      try clear p3
      try clear q3
      try clear hx3
      try clear qi3
      try clear c4
      try clear c4b0
      try clear c4b1
      try clear c5
      try clear c5b0
      try clear c5b1
      try clear c6
      try clear c6b0
      try clear c6b1
      try clear c11
      try clear c12
      try clear hcz13_0
      try clear hcz13_1
      try clear hfz13_0
      try clear hfz13_1
      try clear hx300_0
      try clear hx301_0
      try clear p300
      try clear p301
      try clear q300
      try clear q301
      obtain ⟨x35_1, x293001_1, x303000_1, u303000, rfl, HA, HK1, HO_33, HO_303000, BK292, BK302, HB⟩ := hrel
      cases gk with
      | zero => exact absurd HA.out (by simp [image_Decode.l0])
      | succ k1 =>
       have H := HA.out
       clear HA
       simp only [image_Decode.l0] at H
       by_cases c14 : x35_1 < (t296.length : Int)
       ·rw [if_pos c14] at H
        have c14b0 : decide (x35_1 < (t296.length : Int)) = true := decide_eq_true c14
        clear c14
        by_cases c15 : 0 ≤ x35_1
        ·rw [if_pos c15] at H
         have c15b0 : decide (0 ≤ x35_1) = true := decide_eq_true c15
         clear c15
         by_cases c16 : x35_1 < (t296.length : Int)
         ·rw [if_pos c16] at H
          have c16b0 : decide (x35_1 < (t296.length : Int)) = true := decide_eq_true c16
          clear c16
          replace H := Option.bind_eq_some_iff.mp H
          obtain ⟨⟨t304, t305, t306, t307, t310, t311, t314⟩, A170, H⟩ := H
          replace H : (if t314 = 0 then (if x303000_1.length < 1759218604441 then (image_Decode.l0 k1 t296 (t296.length : Int) (wrap64 (x35_1 + 1)) (x303000_1 ++ [(⟨t304, t305, t306, t307, (⟨t310, t311⟩ : S53)⟩ : S55)]) (rd t293 0)) else (none)) else (none)) = some (r1, r2, r3) := H
          have A17 := Aside0.mk A170
          clear A170
          by_cases c18 : t314 = 0
          ·rw [if_pos c18] at H
           have c18b0 : (t314 == 0) = true := beq_iff_eq.mpr c18
           have c18b1 : (t314 != 0) = false := bne_eq_false_iff_eq.mpr c18
           clear c18
           by_cases c19 : x303000_1.length < 1759218604441
           ·rw [if_pos c19] at H
            have LMc19 := Aside0.mk c19
            clear c19
            obtain ⟨y316, hy316⟩ : ∃ y_ : List (S55), y_ = (x303000_1 ++ [(⟨t304, t305, t306, t307, (⟨t310, t311⟩ : S53)⟩ : S55)]) := ⟨_, rfl⟩
            replace H : (image_Decode.l0 k1 t296 (t296.length : Int) (wrap64 (x35_1 + 1)) y316 (rd t293 0)) = some (r1, r2, r3) := by first | (rw [hy316]; with_reducible exact H) | (have H2_ := (Option.bind_some _ _).symm.trans H; rw [hy316]; with_reducible exact H2_) | (have H2_ := (Option.bind_some _ _).symm.trans H; with_reducible exact H2_) | with_reducible exact H | (rw [hy316]; exact H) | exact H
            have Ny316 := Aside0.mk hy316
            clear hy316
            have H' := Aside0.mk H
            clear H
            have p303 : 0 ≤ (x35_1 : Int) := of_decide_eq_true (by first | (with_reducible assumption) | assumption)
            have q303 : x35_1 < (t296.length : Int) := of_decide_eq_true (by first | (with_reducible assumption) | assumption)
            obtain ⟨ad303, A303_0, c303_0, e303, hx303_0, hl303_0, hi303_0⟩ := at_L5 (Kd.V_reads' HO_33.out).2.2 x35_1 p303 q303
            cases e303
            obtain ⟨ce303, hce303, hMe303, hcc303⟩ := Kd.V_get HO_33.out [] x35_1 p303 (by first | exact q303 | exact of_decide_eq_true (by first | (with_reducible assumption) | assumption) | (have e_ := (Kd.V_reads' HO_33.out).1; omega))
            obtain ⟨ua303_0, uc303_0, rfl, ul303_0, ge303_0⟩ := Kd.FK_slice_open hMe303
            have hv303_0 := hcc303 0 _ rfl
            rw [Nat.add_zero, show ((Kd.slice 5 (Kd.int .u8))).sz = 1 from rfl, Nat.mul_one] at hv303_0
            replace hv303_0 := Option.some.inj (hv303_0.symm.trans hx303_0)
            injection hv303_0 with hva_ hvn_ hvc_
            rw [hva_] at ge303_0
            rw [hvc_] at ul303_0
            have HL303_0 := Aside0.mk (show Kd.V (Kd.int .u8) 5 _ w.heap.size _ _ (rd_L5 t296 x35_1) from Kd.V_mk ul303_0 ge303_0)
            clear hva_ hvn_ hvc_ ge303_0 ul303_0
            clear hcc303 hce303
            have HR303_0 := Aside0.mk hi303_0
            have HC303_0 := Aside0.mk hl303_0
            clear hi303_0 hl303_0
            replace p303 := eq_true p303
            replace q303 := eq_true q303
            go_wp2_with (first | ((with_reducible refine gate_callee (f := 26) rfl ?_); refine goesL_ (some 41) rfl rfl Tryz.func26 (by kernel_rfl) rfl #[.slice A303_0 (rd_L5 t296 x35_1).length c303_0] rfl (by (try simp only [List.map_toArray, List.map_cons, List.map_nil]); first | done | rfl | (simp only [List.length_drop, List.length_take]; rfl)) ?_; (with_reducible refine (image_node.calls k1 _ _ (rd_L5 t296 x35_1) t304 t305 t306 t307 t310 t311 t314 _ ?side1 ?side2 A17.out).mono ?_); (case side1 => repeat (first | exact (by repeat (first | (with_reducible exact HR303_0.out) | (with_reducible refine Kd.C_alloc ?_ _) | (with_reducible refine Kd.C_drewN ?_ _) | (with_reducible refine Kd.C_drew ?_) | exact HR303_0.out)) | (with_reducible refine Kd.C_alloc ?_ _) | (with_reducible refine Kd.C_drewN ?_ _) | (with_reducible refine Kd.C_drew ?_))); (case side2 => exact HC303_0.out); rintro e w20 ⟨v308, v312, rfl, ho0, ho1, hb⟩; refine ⟨_, rfl, ?_⟩; have n0_ := Aside0.mk (Kd.V_mono (Kd.V_told (Kd.V_told (Kd.V_old (by (with_reducible repeat (first | apply Kd.V_alloc | apply Kd.V_drewN | apply Kd.V_drew)); exact HO_33.out) hb) (Kd.R_base ho0)) (Kd.S_base ho1)) (fun _ h_ => h_.1)); have n1_ := Aside0.mk (Kd.R_mono (Kd.R_told (Kd.R_told (Kd.R_old (by (with_reducible repeat (first | apply Kd.R_alloc | apply Kd.R_drewN | apply Kd.R_drew)); exact HO_303000.out) hb) (Kd.R_base ho0)) (Kd.S_base ho1)) (fun _ h_ => h_.1)); have n2_ := Aside0.mk (Kd.V_mono (Kd.V_told (Kd.V_told (Kd.V_old (by (with_reducible repeat (first | apply Kd.V_alloc | apply Kd.V_drewN | apply Kd.V_drew)); exact HL303_0.out) hb) (Kd.R_base ho0)) (Kd.S_base ho1)) (fun _ h_ => h_.1)); have n3_ := Aside0.mk (Kd.R_lower (Kd.R_newM (M := fun k_ => (w.heap.size ≤ k_)) ho0 (below_size (by repeat (first | (with_reducible first | exact HB.out | apply below_alloc | apply pw_below_drewN | apply below_drew1 | refine below_set ?_ GE292.out | refine below_set ?_ GE302.out) | exact HB.out))) (fun k_ h_ => h_)) (below_size (by repeat (first | (with_reducible first | exact HB.out | apply below_alloc | apply pw_below_drewN | apply below_drew1 | refine below_set ?_ GE292.out | refine below_set ?_ GE302.out) | exact HB.out)))); have n4_ := Aside0.mk (Kd.S_lower (Kd.S_newM (M := fun k_ => (w.heap.size ≤ k_)) ho1 (below_size (by repeat (first | (with_reducible first | exact HB.out | apply below_alloc | apply pw_below_drewN | apply below_drew1 | refine below_set ?_ GE292.out | refine below_set ?_ GE302.out) | exact HB.out))) (fun k_ h_ => h_)) (below_size (by repeat (first | (with_reducible first | exact HB.out | apply below_alloc | apply pw_below_drewN | apply below_drew1 | refine below_set ?_ GE292.out | refine below_set ?_ GE302.out) | exact HB.out)))); have n5_ := Aside0.mk (blk_below (g := gb292) (o := .cells #[.slice none 0 0, .int .i64 x293001_1] 32 (0, 0)) (by (with_reducible repeat (first | refine blk_drewN ?_ _ | refine blk_drew ?_ | refine blk_alloc ?_ _)); exact BK292.out) hb); have n6_ := Aside0.mk (blk_below (g := gb302) (o := .cells #[u303000, .int .i64 (rd t293 0)] 32 (0, 0)) (by (with_reducible repeat (first | refine blk_drewN ?_ _ | refine blk_drew ?_ | refine blk_alloc ?_ _)); exact BK302.out) hb); have n7_ := Aside0.mk (Kd.C_below (by repeat (first | (with_reducible exact HR303_0.out) | (with_reducible refine Kd.C_alloc ?_ _) | (with_reducible refine Kd.C_drewN ?_ _) | (with_reducible refine Kd.C_drew ?_) | exact HR303_0.out)) hb); have n8_ := Aside0.mk (below_step (by repeat (first | (with_reducible first | exact HB.out | apply below_alloc | apply pw_below_drewN | apply below_drew1 | refine below_set ?_ GE292.out | refine below_set ?_ GE302.out) | exact HB.out)) hb); clear HO_33; clear HO_303000; clear HL303_0; clear BK292; clear BK302; clear HR303_0; clear HB; have HO_33 := n0_; have HO_303000 := n1_; have HL303_0 := n2_; have HO309 := n3_; have HO313 := n4_; have BK292 := n5_; have BK302 := n6_; have HR303_0 := n7_; have HB := n8_; clear n0_ n1_ n2_ n3_ n4_ n5_ n6_ n7_ n8_; (try clear hb); (try clear hb2); (try clear hk); (try clear hi); (try clear ho0); (try clear ho1)) | ((with_reducible refine gate_dst (N := 10) rfl ?_); refine box_event ?hg (N := 10) ?hd (cs := #[.int .i64 0, .bool false, .int .i64 0, .slice none 0 0, .int .i64 0, .slice none 0 0]) (t := 55) ?hr ?_; (case hd => rfl); (case hg => rfl); (case hr => first | (go_simp; done) | (go_simp; rfl)); intro gb315 hg w21 hbox hb; have n0_ := Aside0.mk (Kd.V_below (Kd.V_elderB (by (with_reducible repeat (first | apply Kd.V_alloc | apply Kd.V_drewN | apply Kd.V_drew)); exact HO_33.out) gb315 (Nat.le_of_eq hg.symm)) hb); have n1_ := Aside0.mk (Kd.R_below (Kd.R_elderB (by (with_reducible repeat (first | apply Kd.R_alloc | apply Kd.R_drewN | apply Kd.R_drew)); exact HO_303000.out) gb315 (Nat.le_of_eq hg.symm)) hb); have n2_ := Aside0.mk (Kd.V_below (Kd.V_elderB (by (with_reducible repeat (first | apply Kd.V_alloc | apply Kd.V_drewN | apply Kd.V_drew)); exact HL303_0.out) gb315 (Nat.le_of_eq hg.symm)) hb); have n3_ := Aside0.mk (Kd.R_below (by (with_reducible repeat (first | apply Kd.R_alloc | apply Kd.R_drewN | apply Kd.R_drew)); exact HO309.out) hb); have n4_ := Aside0.mk (Kd.S_below (by (with_reducible repeat (first | apply Kd.S_alloc | apply Kd.S_drewN | apply Kd.S_drew)); exact HO313.out) hb); have n5_ := Aside0.mk (blk_below (g := gb292) (o := .cells #[.slice none 0 0, .int .i64 x293001_1] 32 (0, 0)) (by (with_reducible repeat (first | refine blk_drewN ?_ _ | refine blk_drew ?_ | refine blk_alloc ?_ _)); exact BK292.out) hb); have n6_ := Aside0.mk (blk_below (g := gb302) (o := .cells #[u303000, .int .i64 (rd t293 0)] 32 (0, 0)) (by (with_reducible repeat (first | refine blk_drewN ?_ _ | refine blk_drew ?_ | refine blk_alloc ?_ _)); exact BK302.out) hb); have n7_ := Aside0.mk (Kd.C_below (by repeat (first | (with_reducible exact HR303_0.out) | (with_reducible refine Kd.C_alloc ?_ _) | (with_reducible refine Kd.C_drewN ?_ _) | (with_reducible refine Kd.C_drew ?_) | exact HR303_0.out)) hb); have n8_ := Aside0.mk (below_step (by repeat (first | (with_reducible first | exact HB.out | apply below_alloc | apply pw_below_drewN | apply below_drew1 | refine below_set ?_ GE292.out | refine below_set ?_ GE302.out) | exact HB.out)) hb); have n9_ := Aside0.mk (hbox); have n10_ := Aside0.mk ((by rw [hg]; exact (below_size (by repeat (first | (with_reducible first | exact HB.out | apply below_alloc | apply pw_below_drewN | apply below_drew1 | refine below_set ?_ GE292.out | refine below_set ?_ GE302.out) | exact HB.out))) : w.heap.size ≤ gb315)); have n11_ := Aside0.mk ((by rw [hg]; exact (below_size (by repeat (first | (with_reducible first | exact HB.out | apply below_alloc | apply pw_below_drewN | apply below_drew1 | refine below_set ?_ GE292.out | refine below_set ?_ GE302.out) | exact HB.out))) : w.heap.size ≤ gb315)); have n12_ := Aside0.mk ((by rw [hg]; exact Nat.ne_of_lt (blk_lt (g := gb292) (o := .cells #[.slice none 0 0, .int .i64 x293001_1] 32 (0, 0)) (by (with_reducible repeat (first | refine blk_drewN ?_ _ | refine blk_drew ?_ | refine blk_alloc ?_ _)); exact BK292.out)) : gb292 ≠ gb315)); have n13_ := Aside0.mk ((by rw [hg]; exact Nat.ne_of_gt (blk_lt (g := gb292) (o := .cells #[.slice none 0 0, .int .i64 x293001_1] 32 (0, 0)) (by (with_reducible repeat (first | refine blk_drewN ?_ _ | refine blk_drew ?_ | refine blk_alloc ?_ _)); exact BK292.out)) : gb315 ≠ gb292)); have n14_ := Aside0.mk ((by rw [hg]; exact Nat.ne_of_lt (blk_lt (g := gb302) (o := .cells #[u303000, .int .i64 (rd t293 0)] 32 (0, 0)) (by (with_reducible repeat (first | refine blk_drewN ?_ _ | refine blk_drew ?_ | refine blk_alloc ?_ _)); exact BK302.out)) : gb302 ≠ gb315)); have n15_ := Aside0.mk ((by rw [hg]; exact Nat.ne_of_gt (blk_lt (g := gb302) (o := .cells #[u303000, .int .i64 (rd t293 0)] 32 (0, 0)) (by (with_reducible repeat (first | refine blk_drewN ?_ _ | refine blk_drew ?_ | refine blk_alloc ?_ _)); exact BK302.out)) : gb315 ≠ gb302)); clear HO_33; clear HO_303000; clear HL303_0; clear HO309; clear HO313; clear BK292; clear BK302; clear HR303_0; clear HB; have HO_33 := n0_; have HO_303000 := n1_; have HL303_0 := n2_; have HO309 := n3_; have HO313 := n4_; have BK292 := n5_; have BK302 := n6_; have HR303_0 := n7_; have HB := n8_; have BK315 := n9_; have GW315 := n10_; have GE315 := n11_; have NB292_315 := n12_; have NB315_292 := n13_; have NB302_315 := n14_; have NB315_302 := n15_; clear n0_ n1_ n2_ n3_ n4_ n5_ n6_ n7_ n8_ n9_ n10_ n11_ n12_ n13_ n14_ n15_; clear hb hbox hg; have hnb22 := NB315_292.out; have hnc22 := NB292_315.out; have hnb23 := NB315_302.out; have hnc23 := NB302_315.out; have hcz24_0 : w21.cell? ⟨gb315, 0, none⟩ = some (.int .i64 0) := (blk_cell BK315.out 0).trans rfl; have hcz24_1 : w21.cell? ⟨gb315, 1, none⟩ = some (.bool false) := (blk_cell BK315.out 1).trans rfl; have hcz24_2 : w21.cell? ⟨gb315, 2, none⟩ = some (.int .i64 0) := (blk_cell BK315.out 2).trans rfl; have hcz24_3 : w21.cell? ⟨gb315, 3, none⟩ = some (.slice none 0 0) := (blk_cell BK315.out 3).trans rfl; have hcz24_4 : w21.cell? ⟨gb315, 4, none⟩ = some (.int .i64 0) := (blk_cell BK315.out 4).trans rfl; have hcz24_5 : w21.cell? ⟨gb315, 5, none⟩ = some (.slice none 0 0) := (blk_cell BK315.out 5).trans rfl; have hfz24_0 := blk_frozen BK315.out 0; have hfz24_1 := blk_frozen BK315.out 1; have hfz24_2 := blk_frozen BK315.out 2; have hfz24_3 := blk_frozen BK315.out 3; have hfz24_4 := blk_frozen BK315.out 4; have hfz24_5 := blk_frozen BK315.out 5; obtain ⟨Ao25, co25, eo25⟩ := Kd.R_slice HO309.out; subst eo25; obtain ⟨Ao26, co26, eo26⟩ := Kd.S_slice HO313.out; subst eo26) | ((with_reducible refine gate_store (t := 55) (p := 10) rfl ?_); refine store_event (t := 55) (p := 10) (v := ?vo_w27) (w1 := ((((((w21.setCell ⟨gb315, 0, none⟩ (.int .i64 t304)).setCell ⟨gb315, 1, none⟩ (.bool t305)).setCell ⟨gb315, 2, none⟩ (.int .i64 t306)).setCell ⟨gb315, 3, none⟩ (.slice Ao25 t307.length co25)).setCell ⟨gb315, 4, none⟩ (.int .i64 t310)).setCell ⟨gb315, 5, none⟩ (.slice Ao26 t311.length co26))) ?hg ?ho ?hn ?hr ?_; (case ho => rfl); (case hg => rfl); (case hn => rfl); (case hr => first | (go_simp; done) | (go_simp; rfl)); intro w27 hw; have n0_ : Aside0 (Kd.V (Kd.slice 5 (Kd.int .u8)) 41 w27 w.heap.size (fun k_ => (P0_ k_ ∨ w.heap.size ≤ k_) ∧ some k_ ≠ (u303000 : Value).ownBlock ∧ some k_ ≠ (.slice Ao25 t307.length co25 : Value).ownBlock ∧ some k_ ≠ (.slice Ao26 t311.length co26 : Value).ownBlock ∧ k_ ≠ gb292 ∧ k_ ≠ gb302 ∧ k_ ≠ gb315) (.slice (some ad303) t296.length co10) t296) := ⟨(by rw [hw]; exact (by (with_reducible repeat (first | apply Kd.V_alloc | apply Kd.V_drewN | apply Kd.V_drew)); exact Kd.V_mono (Kd.V_far (p := ⟨gb315, 5, none⟩) (Kd.V_far (p := ⟨gb315, 4, none⟩) (Kd.V_far (p := ⟨gb315, 3, none⟩) (Kd.V_far (p := ⟨gb315, 2, none⟩) (Kd.V_far (p := ⟨gb315, 1, none⟩) (Kd.V_far (p := ⟨gb315, 0, none⟩) (Kd.V_mono HO_33.out (fun k_ hk => (⟨hk, hk.2⟩ : _ ∧ k_ ≠ gb315))) (fun _ hk => hk.2) (.int .i64 t304)) (fun _ hk => hk.2) (.bool t305)) (fun _ hk => hk.2) (.int .i64 t306)) (fun _ hk => hk.2) (.slice Ao25 t307.length co25)) (fun _ hk => hk.2) (.int .i64 t310)) (fun _ hk => hk.2) (.slice Ao26 t311.length co26)) (fun _ hk => ⟨hk.1.1.1.1.1, ⟨hk.1.1.1.1.2.1, ⟨hk.1.1.1.2, ⟨hk.1.1.2, ⟨hk.1.1.1.1.2.2.1, ⟨hk.1.1.1.1.2.2.2, hk.1.2⟩⟩⟩⟩⟩⟩)))⟩; have n1_ : Aside0 (Kd.R k55 55 w27 w.heap.size (fun k_ => (w.heap.size ≤ k_) ∧ some k_ ≠ (.slice Ao25 t307.length co25 : Value).ownBlock ∧ some k_ ≠ (.slice Ao26 t311.length co26 : Value).ownBlock ∧ k_ ≠ gb315) u303000 x303000_1) := ⟨(by rw [hw]; exact (by (with_reducible repeat (first | apply Kd.R_alloc | apply Kd.R_drewN | apply Kd.R_drew)); exact Kd.R_mono (Kd.R_far (p := ⟨gb315, 5, none⟩) (Kd.R_far (p := ⟨gb315, 4, none⟩) (Kd.R_far (p := ⟨gb315, 3, none⟩) (Kd.R_far (p := ⟨gb315, 2, none⟩) (Kd.R_far (p := ⟨gb315, 1, none⟩) (Kd.R_far (p := ⟨gb315, 0, none⟩) (Kd.R_mono HO_303000.out (fun k_ hk => (⟨hk, hk.2⟩ : _ ∧ k_ ≠ gb315))) (fun _ hk => hk.2) (.int .i64 t304)) (fun _ hk => hk.2) (.bool t305)) (fun _ hk => hk.2) (.int .i64 t306)) (fun _ hk => hk.2) (.slice Ao25 t307.length co25)) (fun _ hk => hk.2) (.int .i64 t310)) (fun _ hk => hk.2) (.slice Ao26 t311.length co26)) (fun _ hk => ⟨hk.1.1.1.1, ⟨hk.1.1.1.2, ⟨hk.1.1.2, hk.1.2⟩⟩⟩)))⟩; have n2_ : Aside0 (Kd.V (Kd.int .u8) 5 w27 w.heap.size (fun k_ => (P0_ k_ ∨ w.heap.size ≤ k_) ∧ some k_ ≠ (u303000 : Value).ownBlock ∧ some k_ ≠ (.slice Ao25 t307.length co25 : Value).ownBlock ∧ some k_ ≠ (.slice Ao26 t311.length co26 : Value).ownBlock ∧ k_ ≠ gb292 ∧ k_ ≠ gb302 ∧ k_ ≠ gb315) (.slice A303_0 (rd_L5 t296 x35_1).length c303_0) (rd_L5 t296 x35_1)) := ⟨(by rw [hw]; exact (by (with_reducible repeat (first | apply Kd.V_alloc | apply Kd.V_drewN | apply Kd.V_drew)); exact Kd.V_mono (Kd.V_far (p := ⟨gb315, 5, none⟩) (Kd.V_far (p := ⟨gb315, 4, none⟩) (Kd.V_far (p := ⟨gb315, 3, none⟩) (Kd.V_far (p := ⟨gb315, 2, none⟩) (Kd.V_far (p := ⟨gb315, 1, none⟩) (Kd.V_far (p := ⟨gb315, 0, none⟩) (Kd.V_mono HL303_0.out (fun k_ hk => (⟨hk, hk.2⟩ : _ ∧ k_ ≠ gb315))) (fun _ hk => hk.2) (.int .i64 t304)) (fun _ hk => hk.2) (.bool t305)) (fun _ hk => hk.2) (.int .i64 t306)) (fun _ hk => hk.2) (.slice Ao25 t307.length co25)) (fun _ hk => hk.2) (.int .i64 t310)) (fun _ hk => hk.2) (.slice Ao26 t311.length co26)) (fun _ hk => ⟨hk.1.1.1.1.1, ⟨hk.1.1.1.1.2.1, ⟨hk.1.1.1.2, ⟨hk.1.1.2, ⟨hk.1.1.1.1.2.2.1, ⟨hk.1.1.1.1.2.2.2, hk.1.2⟩⟩⟩⟩⟩⟩)))⟩; have n3_ : Aside0 (Kd.R k88 88 w27 w.heap.size (fun k_ => (w.heap.size ≤ k_)) (.slice Ao25 t307.length co25) t307) := ⟨(by rw [hw]; exact (by (with_reducible repeat (first | apply Kd.R_alloc | apply Kd.R_drewN | apply Kd.R_drew)); exact Kd.R_mono (Kd.R_far (p := ⟨gb315, 5, none⟩) (Kd.R_far (p := ⟨gb315, 4, none⟩) (Kd.R_far (p := ⟨gb315, 3, none⟩) (Kd.R_far (p := ⟨gb315, 2, none⟩) (Kd.R_far (p := ⟨gb315, 1, none⟩) (Kd.R_far (p := ⟨gb315, 0, none⟩) (Kd.R_types HO309.out BK315.out (by decide)) (fun _ hk => hk.2) (.int .i64 t304)) (fun _ hk => hk.2) (.bool t305)) (fun _ hk => hk.2) (.int .i64 t306)) (fun _ hk => hk.2) (.slice Ao25 t307.length co25)) (fun _ hk => hk.2) (.int .i64 t310)) (fun _ hk => hk.2) (.slice Ao26 t311.length co26)) (fun _ hk => hk.1.1)))⟩; have n4_ : Aside0 (Kd.S k100 100 w27 w.heap.size (fun k_ => (w.heap.size ≤ k_)) (.slice Ao26 t311.length co26) t311) := ⟨(by rw [hw]; exact (by (with_reducible repeat (first | apply Kd.S_alloc | apply Kd.S_drewN | apply Kd.S_drew)); exact Kd.S_mono (Kd.S_far (p := ⟨gb315, 5, none⟩) (Kd.S_far (p := ⟨gb315, 4, none⟩) (Kd.S_far (p := ⟨gb315, 3, none⟩) (Kd.S_far (p := ⟨gb315, 2, none⟩) (Kd.S_far (p := ⟨gb315, 1, none⟩) (Kd.S_far (p := ⟨gb315, 0, none⟩) (Kd.S_types HO313.out BK315.out (by decide)) (fun _ hk => hk.2) (.int .i64 t304)) (fun _ hk => hk.2) (.bool t305)) (fun _ hk => hk.2) (.int .i64 t306)) (fun _ hk => hk.2) (.slice Ao25 t307.length co25)) (fun _ hk => hk.2) (.int .i64 t310)) (fun _ hk => hk.2) (.slice Ao26 t311.length co26)) (fun _ hk => hk.1.1)))⟩; have n5_ : Aside0 (w27.heap[gb292]? = some (.cells #[.slice none 0 0, .int .i64 x293001_1] 32 (0, 0))) := ⟨(by rw [hw]; exact (by (with_reducible repeat (first | refine blk_drewN ?_ _ | refine blk_drew ?_ | refine blk_alloc ?_ _)); refine blk_far ?_ NB292_315.out _; (with_reducible repeat (first | refine blk_drewN ?_ _ | refine blk_drew ?_ | refine blk_alloc ?_ _)); refine blk_far ?_ NB292_315.out _; (with_reducible repeat (first | refine blk_drewN ?_ _ | refine blk_drew ?_ | refine blk_alloc ?_ _)); refine blk_far ?_ NB292_315.out _; (with_reducible repeat (first | refine blk_drewN ?_ _ | refine blk_drew ?_ | refine blk_alloc ?_ _)); refine blk_far ?_ NB292_315.out _; (with_reducible repeat (first | refine blk_drewN ?_ _ | refine blk_drew ?_ | refine blk_alloc ?_ _)); refine blk_far ?_ NB292_315.out _; (with_reducible repeat (first | refine blk_drewN ?_ _ | refine blk_drew ?_ | refine blk_alloc ?_ _)); refine blk_far ?_ NB292_315.out _; (with_reducible repeat (first | refine blk_drewN ?_ _ | refine blk_drew ?_ | refine blk_alloc ?_ _)); exact BK292.out))⟩; have n6_ : Aside0 (w27.heap[gb302]? = some (.cells #[u303000, .int .i64 (rd t293 0)] 32 (0, 0))) := ⟨(by rw [hw]; exact (by (with_reducible repeat (first | refine blk_drewN ?_ _ | refine blk_drew ?_ | refine blk_alloc ?_ _)); refine blk_far ?_ NB302_315.out _; (with_reducible repeat (first | refine blk_drewN ?_ _ | refine blk_drew ?_ | refine blk_alloc ?_ _)); refine blk_far ?_ NB302_315.out _; (with_reducible repeat (first | refine blk_drewN ?_ _ | refine blk_drew ?_ | refine blk_alloc ?_ _)); refine blk_far ?_ NB302_315.out _; (with_reducible repeat (first | refine blk_drewN ?_ _ | refine blk_drew ?_ | refine blk_alloc ?_ _)); refine blk_far ?_ NB302_315.out _; (with_reducible repeat (first | refine blk_drewN ?_ _ | refine blk_drew ?_ | refine blk_alloc ?_ _)); refine blk_far ?_ NB302_315.out _; (with_reducible repeat (first | refine blk_drewN ?_ _ | refine blk_drew ?_ | refine blk_alloc ?_ _)); refine blk_far ?_ NB302_315.out _; (with_reducible repeat (first | refine blk_drewN ?_ _ | refine blk_drew ?_ | refine blk_alloc ?_ _)); exact BK302.out))⟩; have n7_ : Aside0 (w27.heap[gb315]? = some (.cells #[.int .i64 t304, .bool t305, .int .i64 t306, .slice Ao25 t307.length co25, .int .i64 t310, .slice Ao26 t311.length co26] 55 (0, 0))) := ⟨(by rw [hw]; exact (by (with_reducible repeat (first | refine blk_drewN ?_ _ | refine blk_drew ?_ | refine blk_alloc ?_ _)); refine blk_put (cs := #[.int .i64 t304, .bool t305, .int .i64 t306, .slice Ao25 t307.length co25, .int .i64 t310, .slice none 0 0]) ?_ 5 _ rfl; (with_reducible repeat (first | refine blk_drewN ?_ _ | refine blk_drew ?_ | refine blk_alloc ?_ _)); refine blk_put (cs := #[.int .i64 t304, .bool t305, .int .i64 t306, .slice Ao25 t307.length co25, .int .i64 0, .slice none 0 0]) ?_ 4 _ rfl; (with_reducible repeat (first | refine blk_drewN ?_ _ | refine blk_drew ?_ | refine blk_alloc ?_ _)); refine blk_put (cs := #[.int .i64 t304, .bool t305, .int .i64 t306, .slice none 0 0, .int .i64 0, .slice none 0 0]) ?_ 3 _ rfl; (with_reducible repeat (first | refine blk_drewN ?_ _ | refine blk_drew ?_ | refine blk_alloc ?_ _)); refine blk_put (cs := #[.int .i64 t304, .bool t305, .int .i64 0, .slice none 0 0, .int .i64 0, .slice none 0 0]) ?_ 2 _ rfl; (with_reducible repeat (first | refine blk_drewN ?_ _ | refine blk_drew ?_ | refine blk_alloc ?_ _)); refine blk_put (cs := #[.int .i64 t304, .bool false, .int .i64 0, .slice none 0 0, .int .i64 0, .slice none 0 0]) ?_ 1 _ rfl; (with_reducible repeat (first | refine blk_drewN ?_ _ | refine blk_drew ?_ | refine blk_alloc ?_ _)); refine blk_put (cs := #[.int .i64 0, .bool false, .int .i64 0, .slice none 0 0, .int .i64 0, .slice none 0 0]) ?_ 0 _ rfl; (with_reducible repeat (first | refine blk_drewN ?_ _ | refine blk_drew ?_ | refine blk_alloc ?_ _)); exact BK315.out))⟩; have n8_ : Aside0 (Below w.heap.size w w27) := ⟨(by rw [hw]; exact (by repeat (first | (with_reducible first | exact HB.out | apply below_alloc | apply pw_below_drewN | apply below_drew1 | refine below_set ?_ GE292.out | refine below_set ?_ GE302.out | refine below_set ?_ GE315.out) | exact HB.out)))⟩; clear hw; clear HO_33; clear HO_303000; clear HL303_0; clear HO309; clear HO313; clear BK292; clear BK302; clear BK315; clear HB; have HO_33 := n0_; have HO_303000 := n1_; have HL303_0 := n2_; have HO309 := n3_; have HO313 := n4_; have BK292 := n5_; have BK302 := n6_; have BK315 := n7_; have HB := n8_; clear n0_ n1_ n2_ n3_ n4_ n5_ n6_ n7_ n8_; have hnb28 := NB302_292.out; have hnc28 := NB292_302.out; have hcz29_0 : w27.cell? ⟨gb302, 0, none⟩ = some (u303000) := (blk_cell BK302.out 0).trans rfl; have hcz29_1 : w27.cell? ⟨gb302, 1, none⟩ = some (.int .i64 (rd t293 0)) := (blk_cell BK302.out 1).trans rfl; have hfz29_0 := blk_frozen BK302.out 0; have hfz29_1 := blk_frozen BK302.out 1; have hcz30_0 : w27.cell? ⟨gb315, 0, none⟩ = some (.int .i64 t304) := (blk_cell BK315.out 0).trans rfl; have hcz30_1 : w27.cell? ⟨gb315, 1, none⟩ = some (.bool t305) := (blk_cell BK315.out 1).trans rfl; have hcz30_2 : w27.cell? ⟨gb315, 2, none⟩ = some (.int .i64 t306) := (blk_cell BK315.out 2).trans rfl; have hcz30_3 : w27.cell? ⟨gb315, 3, none⟩ = some (.slice Ao25 t307.length co25) := (blk_cell BK315.out 3).trans rfl; have hcz30_4 : w27.cell? ⟨gb315, 4, none⟩ = some (.int .i64 t310) := (blk_cell BK315.out 4).trans rfl; have hcz30_5 : w27.cell? ⟨gb315, 5, none⟩ = some (.slice Ao26 t311.length co26) := (blk_cell BK315.out 5).trans rfl; have hfz30_0 := blk_frozen BK315.out 0; have hfz30_1 := blk_frozen BK315.out 1; have hfz30_2 := blk_frozen BK315.out 2; have hfz30_3 := blk_frozen BK315.out 3; have hfz30_4 := blk_frozen BK315.out 4; have hfz30_5 := blk_frozen BK315.out 5) | ((with_reducible refine gate_builtin (b := .append) (xs := #[.tmp 49, .tmp 51]) rfl ?_); at_builtin; refine Kd.R_append k55 (w0 := w) w.heap.size rfl (.tmp 49) (.tmp 51) 30 55 (.agg #[(.int .i64 0), (.bool false), (.int .i64 0), (.slice none 0 0), (.int .i64 0), (.slice none 0 0)]) 80 rfl Tryz.underlying30 info55 rfl (by decide) (by omega) u303000 x303000_1 (⟨t304, t305, t306, t307, (⟨t310, t311⟩ : S53)⟩ : S55) [.int .i64 t304, .bool t305, .int .i64 t306, .slice Ao25 t307.length co25, .int .i64 t310, .slice Ao26 t311.length co26] (fun k_ => (w.heap.size ≤ k_) ∧ k_ ≠ gb315) (fun k_ => ((fun k_ => (w.heap.size ≤ k_) ∧ k_ ≠ gb315)) k_ ∧ some k_ ≠ (u303000 : Value).ownBlock) rfl rfl ?aP (fun _ hk => hk) ?aF ?aO ?aB ?aS ?aL ?_; (case aP => exact k55_mkM _ _ _ (⟨t304, t305, t306, t307, (⟨t310, t311⟩ : S53)⟩ : S55) (Kd.R_mono (Kd.R_types (Kd.R_apart' (HO309.out) (Kd.R_typed HO_303000.out) (by decide)) BK315.out (by decide)) (fun k_ hk => ⟨⟨hk.1.1, hk.2⟩, hk.1.2⟩)) (Kd.R_mono (Kd.R_types (Kd.R_apart' ((Kd.S_R HO313.out)) (Kd.R_typed HO_303000.out) (by decide)) BK315.out (by decide)) (fun k_ hk => ⟨⟨hk.1.1, hk.2⟩, hk.1.2⟩))); (case aB => exact (by repeat (first | (with_reducible first | exact HB.out | apply below_alloc | apply pw_below_drewN | apply below_drew1 | refine below_set ?_ GE292.out | refine below_set ?_ GE302.out | refine below_set ?_ GE315.out) | exact HB.out))); (case aF => exact (fun k_ hk => ⟨(Nat.le_trans (below_size (by repeat (first | (with_reducible first | exact HB.out | apply below_alloc | apply pw_below_drewN | apply below_drew1 | refine below_set ?_ GE292.out | refine below_set ?_ GE302.out | refine below_set ?_ GE315.out) | exact HB.out))) hk), Kd.freshB (g := gb315) (o := .cells #[.int .i64 t304, .bool t305, .int .i64 t306, .slice Ao25 t307.length co25, .int .i64 t310, .slice Ao26 t311.length co26] 55 (0, 0)) (by (with_reducible repeat (first | refine blk_drewN ?_ _ | refine blk_drew ?_ | refine blk_alloc ?_ _)); exact BK315.out) k_ hk⟩)); (case aO => exact (by (with_reducible repeat (first | apply Kd.R_alloc | apply Kd.R_drewN | apply Kd.R_drew)); exact Kd.R_mono HO_303000.out (fun _ hk => ⟨hk.1, hk.2.2.2⟩))); (case aS => exact (below_size (by repeat (first | (with_reducible first | exact HB.out | apply below_alloc | apply pw_below_drewN | apply below_drew1 | refine below_set ?_ GE292.out | refine below_set ?_ GE302.out | refine below_set ?_ GE315.out) | exact HB.out)))); (case aL => have := LMc19.out; omega); intro v317 w31 ho hb hg hat; rw [← Ny316.out] at ho; have n0_ := Aside0.mk (Kd.V_afterv (ok := (fun k_ => (P0_ k_ ∨ w.heap.size ≤ k_) ∧ some k_ ≠ (.slice Ao25 t307.length co25 : Value).ownBlock ∧ some k_ ≠ (.slice Ao26 t311.length co26 : Value).ownBlock ∧ k_ ≠ gb292 ∧ k_ ≠ gb302 ∧ k_ ≠ gb315)) (by (with_reducible repeat (first | apply Kd.V_alloc | apply Kd.V_drewN | apply Kd.V_drew)); exact Kd.V_mono HO_33.out (fun _ hk => ⟨⟨hk.1, ⟨hk.2.2.1, ⟨hk.2.2.2.1, ⟨hk.2.2.2.2.1, ⟨hk.2.2.2.2.2.1, hk.2.2.2.2.2.2⟩⟩⟩⟩⟩, hk.2.1⟩)) hg hat); have n1_ := Aside0.mk (blk_grown (g := gb292) (o := .cells #[.slice none 0 0, .int .i64 x293001_1] 32 (0, 0)) (by (with_reducible repeat (first | refine blk_drewN ?_ _ | refine blk_drew ?_ | refine blk_alloc ?_ _)); exact BK292.out) hg (Kd.R_ne HO_303000.out BK292.out (by decide))); have n2_ := Aside0.mk (blk_grown (g := gb302) (o := .cells #[u303000, .int .i64 (rd t293 0)] 32 (0, 0)) (by (with_reducible repeat (first | refine blk_drewN ?_ _ | refine blk_drew ?_ | refine blk_alloc ?_ _)); exact BK302.out) hg (Kd.R_ne HO_303000.out BK302.out (by decide))); have n3_ := Aside0.mk (Kd.V_afterv (ok := (fun k_ => (P0_ k_ ∨ w.heap.size ≤ k_) ∧ some k_ ≠ (.slice Ao25 t307.length co25 : Value).ownBlock ∧ some k_ ≠ (.slice Ao26 t311.length co26 : Value).ownBlock ∧ k_ ≠ gb292 ∧ k_ ≠ gb302 ∧ k_ ≠ gb315)) (by (with_reducible repeat (first | apply Kd.V_alloc | apply Kd.V_drewN | apply Kd.V_drew)); exact Kd.V_mono HL303_0.out (fun _ hk => ⟨⟨hk.1, ⟨hk.2.2.1, ⟨hk.2.2.2.1, ⟨hk.2.2.2.2.1, ⟨hk.2.2.2.2.2.1, hk.2.2.2.2.2.2⟩⟩⟩⟩⟩, hk.2.1⟩)) hg hat); have n4_ := Aside0.mk (blk_grown (g := gb315) (o := .cells #[.int .i64 t304, .bool t305, .int .i64 t306, .slice Ao25 t307.length co25, .int .i64 t310, .slice Ao26 t311.length co26] 55 (0, 0)) (by (with_reducible repeat (first | refine blk_drewN ?_ _ | refine blk_drew ?_ | refine blk_alloc ?_ _)); exact BK315.out) hg (Kd.R_away HO_303000.out (fun _ hk => hk.2.2.2))); have n5_ := Aside0.mk (hb); have n6_ := Aside0.mk (ho); clear HO_33; clear BK292; clear BK302; clear HL303_0; clear BK315; clear HB; clear HO_303000; clear HO309; clear HO313; have HO_33 := n0_; have BK292 := n1_; have BK302 := n2_; have HL303_0 := n3_; have BK315 := n4_; have HB := n5_; have HO318 := n6_; clear n0_ n1_ n2_ n3_ n4_ n5_ n6_; clear ho hb hg hat; obtain ⟨Ao32, co32, eo32⟩ := Kd.R_slice HO318.out; subst eo32; have hcz33_0 : w31.cell? ⟨gb302, 0, none⟩ = some (u303000) := (blk_cell BK302.out 0).trans rfl; have hcz33_1 : w31.cell? ⟨gb302, 1, none⟩ = some (.int .i64 (rd t293 0)) := (blk_cell BK302.out 1).trans rfl; have hfz33_0 := blk_frozen BK302.out 0; have hfz33_1 := blk_frozen BK302.out 1))
            go_roundg k1
            case measure => have := HK1.out; omega
            case rel => exact ⟨(wrap64 (x35_1 + 1)), (x293001_1), (y316), (.slice Ao32 y316.length co32), (by first | rfl | (simp; done) | (simp [*]; done)), H', ⟨by have := HK1.out; omega⟩, ⟨by (with_reducible repeat (first | apply Kd.V_alloc | apply Kd.V_drewN | apply Kd.V_drew)); exact Kd.V_mono (Kd.V_far (p := ⟨gb302, 0, none⟩) (Kd.V_mono HO_33.out (fun k_ hk => (⟨hk, hk.1.2.2.2.2.1⟩ : _ ∧ k_ ≠ gb302))) (fun _ hk => hk.2) (.slice Ao32 y316.length co32)) (fun _ hk => ⟨hk.1.1.1, ⟨hk.1.2, ⟨hk.1.1.2.2.2.1, hk.1.1.2.2.2.2.1⟩⟩⟩)⟩, ⟨by (with_reducible repeat (first | apply Kd.R_alloc | apply Kd.R_drewN | apply Kd.R_drew)); exact Kd.R_mono (Kd.R_far (p := ⟨gb302, 0, none⟩) (Kd.R_types HO318.out BK302.out (by decide)) (fun _ hk => hk.2) (.slice Ao32 y316.length co32)) (fun _ hk => hk.1.1)⟩, ⟨by (with_reducible repeat (first | refine blk_drewN ?_ _ | refine blk_drew ?_ | refine blk_alloc ?_ _)); refine blk_far ?_ NB292_302.out _; (with_reducible repeat (first | refine blk_drewN ?_ _ | refine blk_drew ?_ | refine blk_alloc ?_ _)); exact BK292.out⟩, ⟨by (with_reducible repeat (first | refine blk_drewN ?_ _ | refine blk_drew ?_ | refine blk_alloc ?_ _)); refine blk_put (cs := #[u303000, .int .i64 (rd t293 0)]) ?_ 0 _ rfl; (with_reducible repeat (first | refine blk_drewN ?_ _ | refine blk_drew ?_ | refine blk_alloc ?_ _)); exact BK302.out⟩, ⟨by repeat (first | (with_reducible first | exact HB.out | apply below_alloc | apply pw_below_drewN | apply below_drew1 | refine below_set ?_ GE292.out | refine below_set ?_ GE302.out | refine below_set ?_ GE315.out) | exact HB.out)⟩⟩
           ·rw [if_neg c19] at H
            exact absurd H (by simp)
          ·rw [if_neg c18] at H
           exact absurd H (by simp)
         ·rw [if_neg c16] at H
          exact absurd H (by simp)
        ·rw [if_neg c15] at H
         exact absurd H (by simp)
       ·rw [if_neg c14] at H
        have c14b0 : decide (x35_1 < (t296.length : Int)) = false := decide_eq_false c14
        clear c14
        replace H := Option.bind_eq_some_iff.mp H
        obtain ⟨⟨t319, t322, t323⟩, A430, H⟩ := H
        replace H : (some (t319, t322, t323)) = some (r1, r2, r3) := H
        have A43 := Aside0.mk A430
        clear A430
        simp only [Option.some.injEq, Prod.mk.injEq] at H
        obtain ⟨rfl, rfl, rfl⟩ := H
        have hnb44 := NB302_292.out
        have hnc44 := NB292_302.out
        have hcz45_0 : wr.cell? ⟨gb302, 0, none⟩ = some (u303000) := (blk_cell BK302.out 0).trans rfl
        have hcz45_1 : wr.cell? ⟨gb302, 1, none⟩ = some (.int .i64 (rd t293 0)) := (blk_cell BK302.out 1).trans rfl
        have hfz45_0 := blk_frozen BK302.out 0
        have hfz45_1 := blk_frozen BK302.out 1
        obtain ⟨Ao46, co46, eo46⟩ := Kd.R_slice HO_303000.out
        subst eo46
        go_wp2_with (first | ((with_reducible refine gate_callee (f := 27) rfl ?_); refine goesL_ (some 56) rfl rfl Tryz.func27 (by kernel_rfl) rfl #[.agg #[.slice Ao46 x303000_1.length co46, .int .i64 (rd t293 0)]] rfl (by (try simp only [List.map_toArray, List.map_cons, List.map_nil]); first | done | rfl | (simp only [List.length_drop, List.length_take]; rfl)) ?_; (with_reducible refine (image_checked.calls k1 (fun k_ => (((w.heap.size ≤ k_) ∧ k_ ≠ gb292) ∧ k_ ≠ gb302)) _ _ x303000_1 (rd t293 0) t319 t322 t323 _ ?side1 A43.out).mono ?_); (case side1 => exact Kd.R_V (Kd.R_types (Kd.R_types (HO_303000.out) BK292.out (by decide)) BK302.out (by decide))); rintro e w47 ⟨v320, rfl, ho0, hb⟩; refine ⟨_, rfl, ?_⟩; have n0_ := Aside0.mk (Kd.V_below (by (with_reducible repeat (first | apply Kd.V_alloc | apply Kd.V_drewN | apply Kd.V_drew)); exact HO_33.out) hb); have n1_ := Aside0.mk (Kd.R_below (by (with_reducible repeat (first | apply Kd.R_alloc | apply Kd.R_drewN | apply Kd.R_drew)); exact HO_303000.out) hb); have n2_ := Aside0.mk (Kd.V_lower (Kd.V_mono (ok' := fun k_ => (P0_ k_ ∨ w.heap.size ≤ k_) ∧ k_ ≠ gb292 ∧ k_ ≠ gb302) ho0 (fun k_ hk_ => ⟨Or.elim hk_ (fun hs_ => (.inr (hs_.1.1))) (fun hn_ => (.inr (Nat.le_trans (below_size (by repeat (first | (with_reducible first | exact HB.out | apply below_alloc | apply pw_below_drewN | apply below_drew1 | refine below_set ?_ GE292.out | refine below_set ?_ GE302.out) | exact HB.out))) hn_))), Or.elim hk_ (fun hs_ => hs_.1.2) (fun hn_ => (Kd.freshB (g := gb292) (o := .cells #[.slice none 0 0, .int .i64 x293001_1] 32 (0, 0)) (by (with_reducible repeat (first | refine blk_drewN ?_ _ | refine blk_drew ?_ | refine blk_alloc ?_ _)); exact BK292.out) k_ hn_)), Or.elim hk_ (fun hs_ => hs_.2) (fun hn_ => (Kd.freshB (g := gb302) (o := .cells #[.slice Ao46 x303000_1.length co46, .int .i64 (rd t293 0)] 32 (0, 0)) (by (with_reducible repeat (first | refine blk_drewN ?_ _ | refine blk_drew ?_ | refine blk_alloc ?_ _)); exact BK302.out) k_ hn_))⟩)) (below_size (by repeat (first | (with_reducible first | exact HB.out | apply below_alloc | apply pw_below_drewN | apply below_drew1 | refine below_set ?_ GE292.out | refine below_set ?_ GE302.out) | exact HB.out)))); have n3_ := Aside0.mk (blk_below (g := gb292) (o := .cells #[.slice none 0 0, .int .i64 x293001_1] 32 (0, 0)) (by (with_reducible repeat (first | refine blk_drewN ?_ _ | refine blk_drew ?_ | refine blk_alloc ?_ _)); exact BK292.out) hb); have n4_ := Aside0.mk (blk_below (g := gb302) (o := .cells #[.slice Ao46 x303000_1.length co46, .int .i64 (rd t293 0)] 32 (0, 0)) (by (with_reducible repeat (first | refine blk_drewN ?_ _ | refine blk_drew ?_ | refine blk_alloc ?_ _)); exact BK302.out) hb); have n5_ := Aside0.mk (below_step (by repeat (first | (with_reducible first | exact HB.out | apply below_alloc | apply pw_below_drewN | apply below_drew1 | refine below_set ?_ GE292.out | refine below_set ?_ GE302.out) | exact HB.out)) hb); clear HO_33; clear HO_303000; clear BK292; clear BK302; clear HB; have HO_33 := n0_; have HO_303000 := n1_; have HO321 := n2_; have BK292 := n3_; have BK302 := n4_; have HB := n5_; clear n0_ n1_ n2_ n3_ n4_ n5_; (try clear hb); (try clear hb2); (try clear hk); (try clear hi); (try clear ho0); obtain ⟨Ao48, co48, eo48⟩ := Kd.V_slice HO321.out; subst eo48; have hcz49_0 : w47.cell? ⟨gb292, 0, none⟩ = some (.slice none 0 0) := (blk_cell BK292.out 0).trans rfl; have hcz49_1 : w47.cell? ⟨gb292, 1, none⟩ = some (.int .i64 x293001_1) := (blk_cell BK292.out 1).trans rfl; have hfz49_0 := blk_frozen BK292.out 0; have hfz49_1 := blk_frozen BK292.out 1))
        refine bodyPost_ret (results_ct rfl _ _ gb292 32 #[.slice Ao48 t319.length co48, .int .i64 t322] (0, 0) _ rfl (by (with_reducible repeat (first | refine blk_drewN ?_ _ | refine blk_drew ?_ | refine blk_alloc ?_ _)); refine blk_put (cs := #[.slice Ao48 t319.length co48, .int .i64 x293001_1]) ?_ 1 _ rfl; (with_reducible repeat (first | refine blk_drewN ?_ _ | refine blk_drew ?_ | refine blk_alloc ?_ _)); refine blk_put (cs := #[.slice none 0 0, .int .i64 x293001_1]) ?_ 0 _ rfl; (with_reducible repeat (first | refine blk_drewN ?_ _ | refine blk_drew ?_ | refine blk_alloc ?_ _)); exact BK292.out) Tryz.underlying32 rfl (by kernel_rfl)) rfl ?_
        exact ⟨_, by first | rfl | (simp [errW_none, errW_some] <;> rfl) | (simp [*, errW_none, errW_some] <;> rfl) | (exfalso; simp only [beq_iff_eq, decide_eq_true_eq] at *; omega), by (with_reducible repeat (first | apply Kd.V_alloc | apply Kd.V_drewN | apply Kd.V_drew)); exact Kd.V_mono (Kd.V_far (p := ⟨gb292, 1, none⟩) (Kd.V_far (p := ⟨gb292, 0, none⟩) (Kd.V_mono HO321.out (fun k_ hk => (⟨hk, hk.2.1⟩ : _ ∧ k_ ≠ gb292))) (fun _ hk => hk.2) (.slice Ao48 t319.length co48)) (fun _ hk => hk.2) (.int .i64 t322)) (fun _ hk => hk.1.1), by repeat (first | (with_reducible first | exact HB.out | apply below_alloc | apply pw_below_drewN | apply below_drew1 | refine below_set ?_ GE292.out | refine below_set ?_ GE302.out) | exact HB.out)⟩
    ·rw [if_neg c6] at H
     exact absurd H (by simp)
   ·rw [if_neg c5] at H
    have c5b0 : ((rd t293 1) == (t296.length : Int)) = false := beq_eq_false_iff_ne.mpr c5
    have c5b1 : ((rd t293 1) != (t296.length : Int)) = true := bne_iff_ne.mpr c5
    simp only [Option.some.injEq, Prod.mk.injEq] at H
    obtain ⟨rfl, rfl, rfl⟩ := H
    go_enter Tryz.func11, Tryz.ntmps11
    go_wp2_with (first | ((with_reducible refine gate_dst (N := 2) rfl ?_); refine box_event ?hg (N := 2) ?hd (cs := #[.slice none 0 0, .int .i64 0]) (t := 32) ?hr ?_; (case hd => rfl); (case hg => rfl); (case hr => first | (go_simp; done) | (go_simp; rfl)); intro gb292 hg w50 hbox hb; have n0_ := Aside0.mk (Kd.V_below (Kd.V_elderB (by (with_reducible repeat (first | apply Kd.V_alloc | apply Kd.V_drewN | apply Kd.V_drew)); exact HO0.out) gb292 (Nat.le_of_eq hg.symm)) hb); have n1_ := Aside0.mk (below_step (by repeat (first | (with_reducible first | exact HB.out | apply below_alloc | apply pw_below_drewN | apply below_drew1) | exact HB.out)) hb); have n2_ := Aside0.mk (hbox); have n3_ := Aside0.mk ((by rw [hg]; exact (below_size (by repeat (first | (with_reducible first | exact HB.out | apply below_alloc | apply pw_below_drewN | apply below_drew1) | exact HB.out))) : w.heap.size ≤ gb292)); have n4_ := Aside0.mk ((by rw [hg]; exact (below_size (by repeat (first | (with_reducible first | exact HB.out | apply below_alloc | apply pw_below_drewN | apply below_drew1) | exact HB.out))) : w.heap.size ≤ gb292)); clear HO0; clear HB; have HO0 := n0_; have HB := n1_; have BK292 := n2_; have GW292 := n3_; have GE292 := n4_; clear n0_ n1_ n2_ n3_ n4_; clear hb hbox hg) | ((with_reducible refine gate_callee (f := 25) rfl ?_); refine goesL_ (some 14) rfl rfl Tryz.func25 (by kernel_rfl) rfl #[.slice A0 l0.length c0, .int .i64 2] rfl (by (try simp only [List.map_toArray, List.map_cons, List.map_nil]); first | done | rfl | (simp only [List.length_drop, List.length_take]; rfl)) ?_; (with_reducible refine (image_head.calls k (fun k_ => ((P0_ k_ ∨ w.heap.size ≤ k_) ∧ k_ ≠ gb292)) _ _ l0 2 t293 t296 t299 _ ?side1 A2.out).mono ?_); (case side1 => exact HO0.out); rintro e w51 ⟨v294, v297, rfl, ho0, ho1, hb⟩; refine ⟨_, rfl, ?_⟩; have n0_ := Aside0.mk (Kd.V_elder' (by (with_reducible repeat (first | apply Kd.V_alloc | apply Kd.V_drewN | apply Kd.V_drew)); exact HO0.out) (Kd.R_base ho0) hb); have n1_ := Aside0.mk (Kd.R_lower (Kd.R_newM (M := fun k_ => (w.heap.size ≤ k_)) (Kd.R_mono (ok' := fun k_ => True) ho0 (fun _ hk_ => trivial)) (below_size (by repeat (first | (with_reducible first | exact HB.out | apply below_alloc | apply pw_below_drewN | apply below_drew1 | refine below_set ?_ GE292.out) | exact HB.out))) (fun k_ h_ => h_)) (below_size (by repeat (first | (with_reducible first | exact HB.out | apply below_alloc | apply pw_below_drewN | apply below_drew1 | refine below_set ?_ GE292.out) | exact HB.out)))); have n2_ := Aside0.mk (Kd.V_lower (Kd.V_mono (ok' := fun k_ => (P0_ k_ ∨ w.heap.size ≤ k_) ∧ some k_ ≠ (v294 : Value).ownBlock ∧ k_ ≠ gb292) ho1 (fun k_ hk_ => ⟨Or.elim hk_.1 (fun hs_ => hs_.1) (fun hn_ => (.inr (Nat.le_trans (below_size (by repeat (first | (with_reducible first | exact HB.out | apply below_alloc | apply pw_below_drewN | apply below_drew1 | refine below_set ?_ GE292.out) | exact HB.out))) hn_))), hk_.2, Or.elim hk_.1 (fun hs_ => hs_.2) (fun hn_ => (Kd.freshB (g := gb292) (o := .cells #[.slice none 0 0, .int .i64 0] 32 (0, 0)) (by (with_reducible repeat (first | refine blk_drewN ?_ _ | refine blk_drew ?_ | refine blk_alloc ?_ _)); exact BK292.out) k_ hn_))⟩)) (below_size (by repeat (first | (with_reducible first | exact HB.out | apply below_alloc | apply pw_below_drewN | apply below_drew1 | refine below_set ?_ GE292.out) | exact HB.out)))); have n3_ := Aside0.mk (blk_below (g := gb292) (o := .cells #[.slice none 0 0, .int .i64 0] 32 (0, 0)) (by (with_reducible repeat (first | refine blk_drewN ?_ _ | refine blk_drew ?_ | refine blk_alloc ?_ _)); exact BK292.out) hb); have n4_ := Aside0.mk (below_step (by repeat (first | (with_reducible first | exact HB.out | apply below_alloc | apply pw_below_drewN | apply below_drew1 | refine below_set ?_ GE292.out) | exact HB.out)) hb); clear HO0; clear BK292; clear HB; have HO0 := n0_; have HO295 := n1_; have HO298 := n2_; have BK292 := n3_; have HB := n4_; clear n0_ n1_ n2_ n3_ n4_; (try clear hb); (try clear hb2); (try clear hk); (try clear hi); (try clear ho0); (try clear ho1); obtain ⟨Ao52, co52, eo52⟩ := Kd.R_slice HO295.out; subst eo52; have p300 : 0 ≤ (1 : Int) := (by omega); have q300 : 1 < (t293.length : Int) := of_decide_eq_true (by first | (with_reducible assumption) | assumption); obtain ⟨ad300, e300, hx300_0⟩ := Kd.at_int (Kd.R_reads' HO295.out).2.2 1 p300 q300; cases e300; (try simp only [show (1 : Int).toNat = 1 from rfl, Nat.reduceMul, Nat.reduceEqDiff, Go.Addr.add, ↓reduceIte] at hx300_0); have qi300 : (1 < t293.length) = True := eq_true (by omega); (try rw [show ((1 : Int)).toNat = 1 from rfl] at hx300_0); replace p300 := eq_true p300; replace q300 := eq_true q300; obtain ⟨Ao53, co53, eo53⟩ := Kd.V_slice HO298.out; subst eo53; have hcz54_0 : w51.cell? ⟨gb292, 0, none⟩ = some (.slice none 0 0) := (blk_cell BK292.out 0).trans rfl; have hcz54_1 : w51.cell? ⟨gb292, 1, none⟩ = some (.int .i64 0) := (blk_cell BK292.out 1).trans rfl; have hfz54_0 := blk_frozen BK292.out 0; have hfz54_1 := blk_frozen BK292.out 1))
    refine bodyPost_ret (results_ct rfl _ _ gb292 32 #[.slice none 0 0, .int .i64 0] (0, 0) _ rfl (by (with_reducible repeat (first | refine blk_drewN ?_ _ | refine blk_drew ?_ | refine blk_alloc ?_ _)); refine blk_put (cs := #[.slice none 0 0, .int .i64 0]) ?_ 1 _ rfl; (with_reducible repeat (first | refine blk_drewN ?_ _ | refine blk_drew ?_ | refine blk_alloc ?_ _)); refine blk_put (cs := #[.slice none 0 0, .int .i64 0]) ?_ 0 _ rfl; (with_reducible repeat (first | refine blk_drewN ?_ _ | refine blk_drew ?_ | refine blk_alloc ?_ _)); exact BK292.out) Tryz.underlying32 rfl (by kernel_rfl)) rfl ?_
    exact ⟨.slice none 0 0, by first | rfl | (simp [errW_none, errW_some] <;> rfl) | (simp [*, errW_none, errW_some] <;> rfl) | (exfalso; simp only [beq_iff_eq, decide_eq_true_eq] at *; omega), Kd.V_nil _ _ _ _ _, by repeat (first | (with_reducible first | exact HB.out | apply below_alloc | apply pw_below_drewN | apply below_drew1 | refine below_set ?_ GE292.out) | exact HB.out)⟩
  ·rw [if_neg c4] at H
   exact absurd H (by simp)
 ·rw [if_neg c3] at H
  exact absurd H (by simp)
/-! ### fs_New: function 16 -/
def fs_New.f  : Option ((List (S55)) × Int) := some ((([(⟨1, true, 0, ([] : List (S88)), (⟨0, ([] : List (S100))⟩ : S53)⟩ : S55)] : List (S55))), 2)
set_option maxHeartbeats 8000000 in
set_option maxRecDepth 100000 in
theorem fs_New.calls  (r1 : List (S55)) (r2 : Int) (w : World) (h : fs_New.f  = some (r1, r2)) :
  Calls Tryz.prog 16 #[] w fun e w' => ∃ v0_ : Value, e = .returned (.agg #[v0_, .int .i64 r2]) ∧ Kd.R k55 55 w' w.heap.size (fun _ => True) v0_ r1 ∧ Below w.heap.size w w' := by
 have hu32 := Tryz.underlying32
 have hu55 := Tryz.underlying55
 have HB := Aside0.mk (Below.refl w.heap.size w)
 have H : (some ((([(⟨1, true, 0, ([] : List (S88)), (⟨0, ([] : List (S100))⟩ : S53)⟩ : S55)] : List (S55))), 2)) = some (r1, r2) := h
 clear h
 obtain ⟨y325, hy325⟩ : ∃ y_ : List (S55), y_ = (([(⟨1, true, 0, ([] : List (S88)), (⟨0, ([] : List (S100))⟩ : S53)⟩ : S55)] : List (S55))) := ⟨_, rfl⟩
 replace H : (some (y325, 2)) = some (r1, r2) := by first | (rw [hy325]; with_reducible exact H) | (have H2_ := (Option.bind_some _ _).symm.trans H; rw [hy325]; with_reducible exact H2_) | (have H2_ := (Option.bind_some _ _).symm.trans H; with_reducible exact H2_) | with_reducible exact H | (rw [hy325]; exact H) | exact H
 have Ny325 := Aside0.mk hy325
 clear hy325
 simp only [Option.some.injEq, Prod.mk.injEq] at H
 obtain ⟨rfl, rfl⟩ := H
 go_enter Tryz.func16, Tryz.ntmps16
 go_wp2_with (first | ((with_reducible refine gate_dst (N := 0) rfl ?_); refine box_event ?hg (N := 0) ?hd (cs := #[.slice none 0 0, .int .i64 0]) (t := 32) ?hr ?_; (case hd => rfl); (case hg => rfl); (case hr => first | (go_simp; done) | (go_simp; rfl)); intro gb324 hg w1 hbox hb; have n0_ := Aside0.mk (below_step (by repeat (first | (with_reducible first | exact HB.out | apply below_alloc | apply pw_below_drewN | apply below_drew1) | exact HB.out)) hb); have n1_ := Aside0.mk (hbox); have n2_ := Aside0.mk ((by rw [hg]; exact (below_size (by repeat (first | (with_reducible first | exact HB.out | apply below_alloc | apply pw_below_drewN | apply below_drew1) | exact HB.out))) : w.heap.size ≤ gb324)); have n3_ := Aside0.mk ((by rw [hg]; exact (below_size (by repeat (first | (with_reducible first | exact HB.out | apply below_alloc | apply pw_below_drewN | apply below_drew1) | exact HB.out))) : w.heap.size ≤ gb324)); clear HB; have HB := n0_; have BK324 := n1_; have GW324 := n2_; have GE324 := n3_; clear n0_ n1_ n2_ n3_; clear hb hbox hg) | ((with_reducible refine gate_dst (N := 2) rfl ?_); refine Kd.R_lit k55 _ 55 ?hg (N := 2) ?hd (xs := ([(⟨1, true, 0, ([] : List (S88)), (⟨0, ([] : List (S100))⟩ : S53)⟩ : S55)] : List (S55))) (inner := [.int .i64 1, .bool true, .int .i64 0, .slice none 0 0, .int .i64 0, .slice none 0 0]) (ok := fun _ => True) (okp := fun _ => True) ?hr ?hp (fun _ hk => hk) trivial (Below.refl _ _) (Nat.le_refl _) (by simp) ?_; (case hd => rfl); (case hg => rfl); (case hr => first | (go_simp; done) | (go_simp; rfl)); (case hp => exact (Reps.c6 (show Kd.M k55 _ _ _ (⟨1, true, 0, ([] : List (S88)), (⟨0, ([] : List (S100))⟩ : S53)⟩ : S55) [.int .i64 1, .bool true, .int .i64 0, .slice none 0 0, .int .i64 0, .slice none 0 0] from (k55_mkM _ _ _ (⟨1, true, 0, ([] : List (S88)), (⟨0, ([] : List (S100))⟩ : S53)⟩ : S55) (Kd.R_nil _ _ _ _ _) (Kd.R_nil _ _ _ _ _))) (Reps.none _ _))); intro v326 w2 ho3 hb hg_ hnew_; clear hg_ hnew_; (first | rw [← Ny325.out] at ho3 | (simp only [Int.reduceToNat] at ho3; rw [← Ny325.out] at ho3)); have n0_ := Aside0.mk (Kd.R_lower ho3 (below_size (by repeat (first | (with_reducible first | exact HB.out | apply below_alloc | apply pw_below_drewN | apply below_drew1 | refine below_set ?_ GE324.out) | exact HB.out)))); have n1_ := Aside0.mk (blk_below (g := gb324) (o := .cells #[.slice none 0 0, .int .i64 0] 32 (0, 0)) (by (with_reducible repeat (first | refine blk_drewN ?_ _ | refine blk_drew ?_ | refine blk_alloc ?_ _)); exact BK324.out) hb); have n2_ := Aside0.mk (below_step (by repeat (first | (with_reducible first | exact HB.out | apply below_alloc | apply pw_below_drewN | apply below_drew1 | refine below_set ?_ GE324.out) | exact HB.out)) hb); clear BK324; clear HB; have HO327 := n0_; have BK324 := n1_; have HB := n2_; clear n0_ n1_ n2_; clear hb ho3; obtain ⟨Ao4, co4, eo4⟩ := Kd.R_slice HO327.out; subst eo4; have hcz5_0 : w2.cell? ⟨gb324, 0, none⟩ = some (.slice none 0 0) := (blk_cell BK324.out 0).trans rfl; have hcz5_1 : w2.cell? ⟨gb324, 1, none⟩ = some (.int .i64 0) := (blk_cell BK324.out 1).trans rfl; have hfz5_0 := blk_frozen BK324.out 0; have hfz5_1 := blk_frozen BK324.out 1))
 refine bodyPost_ret (results_cell_row rfl _ _ gb324 32 #[.slice Ao4 y325.length co4, .int .i64 2] (0, 0) _ rfl (by (with_reducible repeat (first | refine blk_drewN ?_ _ | refine blk_drew ?_ | refine blk_alloc ?_ _)); refine blk_put (cs := #[.slice Ao4 y325.length co4, .int .i64 0]) ?_ 1 _ rfl; (with_reducible repeat (first | refine blk_drewN ?_ _ | refine blk_drew ?_ | refine blk_alloc ?_ _)); refine blk_put (cs := #[.slice none 0 0, .int .i64 0]) ?_ 0 _ rfl; (with_reducible repeat (first | refine blk_drewN ?_ _ | refine blk_drew ?_ | refine blk_alloc ?_ _)); exact BK324.out) Tryz.underlying32 rfl (by kernel_rfl)) rfl ?_
 exact ⟨_, by first | rfl | (simp [errW_none, errW_some] <;> rfl) | (simp [*, errW_none, errW_some] <;> rfl) | (exfalso; simp only [beq_iff_eq, decide_eq_true_eq] at *; omega), by (with_reducible repeat (first | apply Kd.R_alloc | apply Kd.R_drewN | apply Kd.R_drew)); exact Kd.R_mono (Kd.R_far (p := ⟨gb324, 1, none⟩) (Kd.R_far (p := ⟨gb324, 0, none⟩) (Kd.R_types HO327.out BK324.out (by decide)) (fun _ hk => hk.2) (.slice Ao4 y325.length co4)) (fun _ hk => hk.2) (.int .i64 2)) (fun _ hk => trivial), by repeat (first | (with_reducible first | exact HB.out | apply below_alloc | apply pw_below_drewN | apply below_drew1 | refine below_set ?_ GE324.out) | exact HB.out)⟩

/-! ### undercroftlaw12_alive: function 6 -/
def undercroftlaw12_alive.f (k : Nat)  : Option (Bool) := (fs_New.f).bind fun bt328 => ((image_Encode.f k bt328.1 bt328.2).bind fun bt332 => ((image_Decode.f k bt332.1).bind fun bt336 => ((undercroftlaw12_num.f bt332.2).bind fun t342 => ((undercroftlaw12_num.f bt336.2.2).bind fun t343 => (if (wrap64 (t342 + t343)) = 0 then (if (bt332.1.length : Int) = 2 then (if (bt336.1.length : Int) = 1 then (some (bt336.2.1 == 2)) else (none)) else (none)) else (none))))))
theorem undercroftlaw12_alive.mono : ∀ k, LeO (undercroftlaw12_alive.f k ) (undercroftlaw12_alive.f (k + 1) ) := by
 intro  k
 unfold undercroftlaw12_alive.f
 repeat' first
   | (with_reducible exact image_Decode.mono _ _)
   | (with_reducible exact image_Encode.mono _ _ _)
   | (with_reducible exact LeO.refl _)
   | (with_reducible exact LeO.none _)
   | (with_reducible refine LeO.ite ?_ ?_)
   | (with_reducible refine LeO.bind ?_ (fun _ => ?_))
   | exact image_Decode.mono _ _
   | exact image_Encode.mono _ _ _
   | exact LeO.none _
   | refine LeO.ite ?_ ?_
   | refine LeO.bind ?_ (fun _ => ?_)
set_option maxHeartbeats 8000000 in
set_option maxRecDepth 100000 in
theorem undercroftlaw12_alive.calls (k : Nat)  (r : Bool) (w : World) (h : undercroftlaw12_alive.f k  = some r) :
  Calls Tryz.prog 6 #[] w fun e w' => e = .returned (.bool r) ∧ Below w.heap.size w w' := by
 have hu32 := Tryz.underlying32
 have HB := Aside0.mk (Below.refl w.heap.size w)
 have H : ((fs_New.f).bind fun bt328 => ((image_Encode.f k bt328.1 bt328.2).bind fun bt332 => ((image_Decode.f k bt332.1).bind fun bt336 => ((undercroftlaw12_num.f bt332.2).bind fun t342 => ((undercroftlaw12_num.f bt336.2.2).bind fun t343 => (if (wrap64 (t342 + t343)) = 0 then (if (bt332.1.length : Int) = 2 then (if (bt336.1.length : Int) = 1 then (some (bt336.2.1 == 2)) else (none)) else (none)) else (none))))))) = some r := h
 clear h
 replace H := Option.bind_eq_some_iff.mp H
 obtain ⟨⟨t328, t331⟩, A10, H⟩ := H
 replace H : ((image_Encode.f k t328 t331).bind fun bt332 => ((image_Decode.f k bt332.1).bind fun bt336 => ((undercroftlaw12_num.f bt332.2).bind fun t342 => ((undercroftlaw12_num.f bt336.2.2).bind fun t343 => (if (wrap64 (t342 + t343)) = 0 then (if (bt332.1.length : Int) = 2 then (if (bt336.1.length : Int) = 1 then (some (bt336.2.1 == 2)) else (none)) else (none)) else (none)))))) = some r := H
 have A1 := Aside0.mk A10
 clear A10
 replace H := Option.bind_eq_some_iff.mp H
 obtain ⟨⟨t332, t335⟩, A20, H⟩ := H
 replace H : ((image_Decode.f k t332).bind fun bt336 => ((undercroftlaw12_num.f t335).bind fun t342 => ((undercroftlaw12_num.f bt336.2.2).bind fun t343 => (if (wrap64 (t342 + t343)) = 0 then (if (t332.length : Int) = 2 then (if (bt336.1.length : Int) = 1 then (some (bt336.2.1 == 2)) else (none)) else (none)) else (none))))) = some r := H
 have A2 := Aside0.mk A20
 clear A20
 replace H := Option.bind_eq_some_iff.mp H
 obtain ⟨⟨t336, t339, t340⟩, A30, H⟩ := H
 replace H : ((undercroftlaw12_num.f t335).bind fun t342 => ((undercroftlaw12_num.f t340).bind fun t343 => (if (wrap64 (t342 + t343)) = 0 then (if (t332.length : Int) = 2 then (if (t336.length : Int) = 1 then (some (t339 == 2)) else (none)) else (none)) else (none)))) = some r := H
 have A3 := Aside0.mk A30
 clear A30
 replace H := Option.bind_eq_some_iff.mp H
 obtain ⟨t342, A40, H⟩ := H
 replace H : ((undercroftlaw12_num.f t340).bind fun t343 => (if (wrap64 (t342 + t343)) = 0 then (if (t332.length : Int) = 2 then (if (t336.length : Int) = 1 then (some (t339 == 2)) else (none)) else (none)) else (none))) = some r := H
 have A4 := Aside0.mk A40
 clear A40
 replace H := Option.bind_eq_some_iff.mp H
 obtain ⟨t343, A50, H⟩ := H
 replace H : (if (wrap64 (t342 + t343)) = 0 then (if (t332.length : Int) = 2 then (if (t336.length : Int) = 1 then (some (t339 == 2)) else (none)) else (none)) else (none)) = some r := H
 have A5 := Aside0.mk A50
 clear A50
 by_cases c6 : (wrap64 (t342 + t343)) = 0
 ·rw [if_pos c6] at H
  have c6b0 : ((wrap64 (t342 + t343)) == 0) = true := beq_iff_eq.mpr c6
  have c6b1 : ((wrap64 (t342 + t343)) != 0) = false := bne_eq_false_iff_eq.mpr c6
  clear c6
  by_cases c7 : (t332.length : Int) = 2
  ·rw [if_pos c7] at H
   have c7b0 : ((t332.length : Int) == 2) = true := beq_iff_eq.mpr c7
   have c7b1 : ((t332.length : Int) != 2) = false := bne_eq_false_iff_eq.mpr c7
   clear c7
   by_cases c8 : (t336.length : Int) = 1
   ·rw [if_pos c8] at H
    have c8b0 : ((t336.length : Int) == 1) = true := beq_iff_eq.mpr c8
    have c8b1 : ((t336.length : Int) != 1) = false := bne_eq_false_iff_eq.mpr c8
    clear c8
    obtain rfl := Option.some.inj H
    go_enter Tryz.func6, Tryz.ntmps6
    go_wp2_with (first | ((with_reducible refine gate_callee (f := 16) rfl ?_); refine goesL_ (some 6) rfl rfl Tryz.func16 (by kernel_rfl) rfl #[] rfl (by (try simp only [List.map_toArray, List.map_cons, List.map_nil]); first | done | rfl | (simp only [List.length_drop, List.length_take]; rfl)) ?_; (with_reducible refine (fs_New.calls  t328 t331 _ A1.out).mono ?_); rintro e w9 ⟨v329, rfl, ho0, hb⟩; refine ⟨_, rfl, ?_⟩; have n0_ := Aside0.mk (Kd.N_lower (Kd.N_mono (ok' := fun k_ => True) (Kd.R_N (Kd.R_bound ho0)) (fun k_ hk_ => trivial)) (below_size (by repeat (first | (with_reducible first | exact HB.out | apply below_alloc | apply pw_below_drewN | apply below_drew1) | exact HB.out)))); have n1_ := Aside0.mk (below_step (by repeat (first | (with_reducible first | exact HB.out | apply below_alloc | apply pw_below_drewN | apply below_drew1) | exact HB.out)) hb); clear HB; have HO330 := n0_; have HB := n1_; clear n0_ n1_; (try clear hb); (try clear hb2); (try clear hk); (try clear hi); (try clear ho0); obtain ⟨Ao10, co10, eo10⟩ := Kd.N_slice HO330.out; subst eo10) | ((with_reducible refine gate_callee (f := 7) rfl ?_); refine goesL_ (some 7) rfl rfl Tryz.func7 (by kernel_rfl) rfl #[.agg #[.slice Ao10 t328.length co10, .int .i64 t331]] rfl (by (try simp only [List.map_toArray, List.map_cons, List.map_nil]); first | done | rfl | (simp only [List.length_drop, List.length_take]; rfl)) ?_; (with_reducible refine (image_Encode.calls k _ _ t328 t331 t332 t335 _ ?side1 ?side2 A2.out).mono ?_); (case side1 => repeat (first | exact (Kd.N_reads' HO330.out).2.2 | (with_reducible refine Kd.C_alloc ?_ _) | (with_reducible refine Kd.C_drewN ?_ _) | (with_reducible refine Kd.C_drew ?_))); (case side2 => exact (Kd.N_reads' HO330.out).2.1); rintro e w11 ⟨v333, rfl, ho0, hb⟩; refine ⟨_, rfl, ?_⟩; have n0_ := Aside0.mk (Kd.N_elder' (by (with_reducible repeat (first | apply Kd.N_alloc | apply Kd.N_drewN | apply Kd.N_drew)); exact HO330.out) (Kd.N_base ho0) hb); have n1_ := Aside0.mk (Kd.N_lower (Kd.N_mono (ok' := fun k_ => some k_ ≠ (.slice Ao10 t328.length co10 : Value).ownBlock) ho0 (fun k_ hk_ => (Kd.fresh' (Kd.N_lt (by (with_reducible repeat (first | apply Kd.N_alloc | apply Kd.N_drewN | apply Kd.N_drew)); exact HO330.out)) k_ hk_))) (below_size (by repeat (first | (with_reducible first | exact HB.out | apply below_alloc | apply pw_below_drewN | apply below_drew1) | exact HB.out)))); have n2_ := Aside0.mk (below_step (by repeat (first | (with_reducible first | exact HB.out | apply below_alloc | apply pw_below_drewN | apply below_drew1) | exact HB.out)) hb); clear HO330; clear HB; have HO330 := n0_; have HO334 := n1_; have HB := n2_; clear n0_ n1_ n2_; (try clear hb); (try clear hb2); (try clear hk); (try clear hi); (try clear ho0); obtain ⟨Ao12, co12, eo12⟩ := Kd.N_slice HO334.out; subst eo12) | ((with_reducible refine gate_callee (f := 11) rfl ?_); refine goesL_ (some 12) rfl rfl Tryz.func11 (by kernel_rfl) rfl #[.slice Ao12 t332.length co12] rfl (by (try simp only [List.map_toArray, List.map_cons, List.map_nil]); first | done | rfl | (simp only [List.length_drop, List.length_take]; rfl)) ?_; (with_reducible refine (image_Decode.calls k (fun k_ => some k_ ≠ (.slice Ao10 t328.length co10 : Value).ownBlock) _ _ t332 t336 t339 t340 _ ?side1 A3.out).mono ?_); (case side1 => exact Kd.N_V (HO334.out)); rintro e w13 ⟨v337, rfl, ho0, hb⟩; refine ⟨_, rfl, ?_⟩; have n0_ := Aside0.mk (Kd.N_below (by (with_reducible repeat (first | apply Kd.N_alloc | apply Kd.N_drewN | apply Kd.N_drew)); exact HO330.out) hb); have n1_ := Aside0.mk (Kd.N_below (by (with_reducible repeat (first | apply Kd.N_alloc | apply Kd.N_drewN | apply Kd.N_drew)); exact HO334.out) hb); have n2_ := Aside0.mk (Kd.V_lower (Kd.V_mono (ok' := fun k_ => some k_ ≠ (.slice Ao10 t328.length co10 : Value).ownBlock) ho0 (fun k_ hk_ => Or.elim hk_ (fun hs_ => hs_) (fun hn_ => (Kd.fresh' (Kd.N_lt (by (with_reducible repeat (first | apply Kd.N_alloc | apply Kd.N_drewN | apply Kd.N_drew)); exact HO330.out)) k_ hn_)))) (below_size (by repeat (first | (with_reducible first | exact HB.out | apply below_alloc | apply pw_below_drewN | apply below_drew1) | exact HB.out)))); have n3_ := Aside0.mk (below_step (by repeat (first | (with_reducible first | exact HB.out | apply below_alloc | apply pw_below_drewN | apply below_drew1) | exact HB.out)) hb); clear HO330; clear HO334; clear HB; have HO330 := n0_; have HO334 := n1_; have HO338 := n2_; have HB := n3_; clear n0_ n1_ n2_ n3_; (try clear hb); (try clear hb2); (try clear hk); (try clear hi); (try clear ho0)) | ((with_reducible refine gate_dst (N := 3) rfl ?_); (try (refine gate_guard (by rfl) ?_; dsimp only)); refine box_event ?hg (N := 3) ?hd (cs := #[.slice none 0 0, .int .i64 0]) (t := 32) ?hr ?_; (case hd => rfl); (case hg => rfl); (case hr => first | (go_simp; done) | (go_simp; rfl)); intro gb341 hg w14 hbox hb; have n0_ := Aside0.mk (Kd.N_below (Kd.N_elderB (by (with_reducible repeat (first | apply Kd.N_alloc | apply Kd.N_drewN | apply Kd.N_drew)); exact HO330.out) gb341 (Nat.le_of_eq hg.symm)) hb); have n1_ := Aside0.mk (Kd.N_below (Kd.N_elderB (by (with_reducible repeat (first | apply Kd.N_alloc | apply Kd.N_drewN | apply Kd.N_drew)); exact HO334.out) gb341 (Nat.le_of_eq hg.symm)) hb); have n2_ := Aside0.mk (Kd.V_below (Kd.V_elderB (by (with_reducible repeat (first | apply Kd.V_alloc | apply Kd.V_drewN | apply Kd.V_drew)); exact HO338.out) gb341 (Nat.le_of_eq hg.symm)) hb); have n3_ := Aside0.mk (below_step (by repeat (first | (with_reducible first | exact HB.out | apply below_alloc | apply pw_below_drewN | apply below_drew1) | exact HB.out)) hb); have n4_ := Aside0.mk (hbox); have n5_ := Aside0.mk ((by rw [hg]; exact (below_size (by repeat (first | (with_reducible first | exact HB.out | apply below_alloc | apply pw_below_drewN | apply below_drew1) | exact HB.out))) : w.heap.size ≤ gb341)); have n6_ := Aside0.mk ((by rw [hg]; exact (below_size (by repeat (first | (with_reducible first | exact HB.out | apply below_alloc | apply pw_below_drewN | apply below_drew1) | exact HB.out))) : w.heap.size ≤ gb341)); clear HO330; clear HO334; clear HO338; clear HB; have HO330 := n0_; have HO334 := n1_; have HO338 := n2_; have HB := n3_; have BK341 := n4_; have GW341 := n5_; have GE341 := n6_; clear n0_ n1_ n2_ n3_ n4_ n5_ n6_; clear hb hbox hg; obtain ⟨Ao15, co15, eo15⟩ := Kd.V_slice HO338.out; subst eo15; have hcz16_0 : w14.cell? ⟨gb341, 0, none⟩ = some (.slice none 0 0) := (blk_cell BK341.out 0).trans rfl; have hcz16_1 : w14.cell? ⟨gb341, 1, none⟩ = some (.int .i64 0) := (blk_cell BK341.out 1).trans rfl; have hfz16_0 := blk_frozen BK341.out 0; have hfz16_1 := blk_frozen BK341.out 1) | ((with_reducible refine gate_callee (f := 9) rfl ?_); refine goesL_ (some 16) rfl rfl Tryz.func9 (by kernel_rfl) rfl #[.int .i64 t335] rfl (by (try simp only [List.map_toArray, List.map_cons, List.map_nil]); first | done | rfl | (simp only [List.length_drop, List.length_take]; rfl)) ?_; (with_reducible refine (undercroftlaw12_num.calls t335 t342 _ A4.out).mono ?_); rintro e w' ⟨rfl, ⟨nd, rfl⟩⟩; refine ⟨_, rfl, ?_⟩) | ((with_reducible refine gate_callee (f := 9) rfl ?_); refine goesL_ (some 18) rfl rfl Tryz.func9 (by kernel_rfl) rfl #[.int .i64 t340] rfl (by (try simp only [List.map_toArray, List.map_cons, List.map_nil]); first | done | rfl | (simp only [List.length_drop, List.length_take]; rfl)) ?_; (with_reducible refine (undercroftlaw12_num.calls t340 t343 _ A5.out).mono ?_); rintro e w' ⟨rfl, ⟨nd, rfl⟩⟩; refine ⟨_, rfl, ?_⟩))
    go_ret
    exact ⟨by first | rfl | (simp [errW_none, errW_some] <;> rfl) | (simp [*, errW_none, errW_some] <;> rfl) | (exfalso; simp only [beq_iff_eq, decide_eq_true_eq] at *; omega), by repeat (first | (with_reducible first | exact HB.out | apply below_alloc | apply pw_below_drewN | apply below_drew1 | refine below_set ?_ GE341.out) | exact HB.out)⟩
   ·rw [if_neg c8] at H
    exact absurd H (by simp)
  ·rw [if_neg c7] at H
   exact absurd H (by simp)
 ·rw [if_neg c6] at H
  exact absurd H (by simp)
/-! ### undercroftlaw08_Of: function 20 -/
def undercroftlaw08_Of.l0 : Nat → List (S101) → List (S88) → Int → Option ((List (S88)))
 | 0, _, _, _ => none
 | k + 1, x0, x3, x4 => if x4 < (x0.length : Int) then (if 0 ≤ x4 then (if x3.length < 5864062014805 then (undercroftlaw08_Of.l0 k x0 (x3 ++ [(⟨(rd_T101 x0 x4).f0, (rd_T101 x0 x4).f1⟩ : S88)]) (wrap64 (x4 + 1))) else (none)) else (none)) else (some x3)
def undercroftlaw08_Of.f (k : Nat) (l0 : List (S101)) : Option ((List (S88))) := undercroftlaw08_Of.l0 k l0 ([] : List (S88)) 0
theorem undercroftlaw08_Of.mono_l : ∀ k, (∀ y0 y1 y2, LeO (undercroftlaw08_Of.l0 k y0 y1 y2) (undercroftlaw08_Of.l0 (k + 1) y0 y1 y2))
 | 0 => fun _ _ _ r h => by simp [undercroftlaw08_Of.l0] at h
 | k + 1 => by
  have ih0 := undercroftlaw08_Of.mono_l k
  ·intro y0 y1 y2
   unfold undercroftlaw08_Of.l0
   repeat' first
   | (with_reducible exact ih0 _ _ _)
   | (with_reducible exact LeO.refl _)
   | (with_reducible exact LeO.none _)
   | (with_reducible refine LeO.ite ?_ ?_)
   | (with_reducible refine LeO.bind ?_ (fun _ => ?_))
   | exact ih0 _ _ _
   | exact LeO.none _
   | refine LeO.ite ?_ ?_
   | refine LeO.bind ?_ (fun _ => ?_)
theorem undercroftlaw08_Of.mono : ∀ a0 k, LeO (undercroftlaw08_Of.f k a0) (undercroftlaw08_Of.f (k + 1) a0) := by
 intro a0 k
 have ih0 := undercroftlaw08_Of.mono_l k
 unfold undercroftlaw08_Of.f
 repeat' first
   | (with_reducible exact ih0 _ _ _)
   | (with_reducible exact LeO.refl _)
   | (with_reducible exact LeO.none _)
   | (with_reducible refine LeO.ite ?_ ?_)
   | (with_reducible refine LeO.bind ?_ (fun _ => ?_))
   | exact ih0 _ _ _
   | exact LeO.none _
   | refine LeO.ite ?_ ?_
   | refine LeO.bind ?_ (fun _ => ?_)
set_option maxHeartbeats 8000000 in
set_option maxRecDepth 100000 in
theorem undercroftlaw08_Of.calls (k : Nat) (A0 : Option Addr) (c0 : Nat) (l0 : List (S101)) (r : List (S88)) (w : World) (hr0 : Kd.C k101 w A0 l0.length l0) (hc0 : l0.length ≤ c0) (h : undercroftlaw08_Of.f k l0 = some r) :
  Calls Tryz.prog 20 #[.slice A0 l0.length c0] w fun e w' => ∃ v0_ : Value, e = .returned (v0_) ∧ Kd.R k88 88 w' w.heap.size (fun _ => True) v0_ r ∧ Below w.heap.size w w' := by
 have hu101 := Tryz.underlying101
 have HR0 := Aside0.mk hr0
 have HC0 := Aside0.mk hc0
 clear hr0 hc0
 have HB := Aside0.mk (Below.refl w.heap.size w)
 have H : (undercroftlaw08_Of.l0 k l0 ([] : List (S88)) 0) = some r := h
 clear h
 have H' := Aside0.mk H
 clear H
 go_enter Tryz.func20, Tryz.ntmps20
 go_wp2
 go_loopg [3, 4] k (fun kq v3 v4 w' => ∃ (x3_1 : List (S88)) (x4_1 : Int), v4 = .int .i64 x4_1 ∧ Aside0 (undercroftlaw08_Of.l0 kq l0 x3_1 x4_1 = some r) ∧ Aside0 (kq ≤ k) ∧ Aside0 (Kd.R k88 88 w' w.heap.size (fun _ => True) v3 x3_1) ∧ Aside0 (Below w.heap.size w w'))
 case atStart => exact ⟨(([] : List (S88))), (0), (by first | rfl | (simp; done) | (simp [*]; done)), H', ⟨Nat.le_refl _⟩, ⟨by first | exact Kd.R_nil _ _ _ _ _ | exact Kd.N_nil _ _ _ _ _ | exact Kd.V_nil _ _ _ _ _ | exact Kd.Q_nil _ _ _ _ _ | exact Kd.S_nil _ _ _ _ _⟩, ⟨by repeat (first | (with_reducible first | exact HB.out | apply below_alloc | apply pw_below_drewN | apply below_drew1) | exact HB.out)⟩⟩
 case round =>
  clear H'
  obtain ⟨x3_1, x4_1, rfl, HA, HK1, HO_3, HB⟩ := hrel
  cases gk with
  | zero => exact absurd HA.out (by simp [undercroftlaw08_Of.l0])
  | succ k1 =>
   have H := HA.out
   clear HA
   simp only [undercroftlaw08_Of.l0] at H
   by_cases c2 : x4_1 < (l0.length : Int)
   ·rw [if_pos c2] at H
    have c2b0 : decide (x4_1 < (l0.length : Int)) = true := decide_eq_true c2
    clear c2
    by_cases c3 : 0 ≤ x4_1
    ·rw [if_pos c3] at H
     have c3b0 : decide (0 ≤ x4_1) = true := decide_eq_true c3
     clear c3
     by_cases c4 : x3_1.length < 5864062014805
     ·rw [if_pos c4] at H
      have LMc4 := Aside0.mk c4
      clear c4
      obtain ⟨y345, hy345⟩ : ∃ y_ : List (S88), y_ = (x3_1 ++ [(⟨(rd_T101 l0 x4_1).f0, (rd_T101 l0 x4_1).f1⟩ : S88)]) := ⟨_, rfl⟩
      replace H : (undercroftlaw08_Of.l0 k1 l0 y345 (wrap64 (x4_1 + 1))) = some r := by first | (rw [hy345]; with_reducible exact H) | (have H2_ := (Option.bind_some _ _).symm.trans H; rw [hy345]; with_reducible exact H2_) | (have H2_ := (Option.bind_some _ _).symm.trans H; with_reducible exact H2_) | with_reducible exact H | (rw [hy345]; exact H) | exact H
      have Ny345 := Aside0.mk hy345
      clear hy345
      have H' := Aside0.mk H
      clear H
      have p344 : 0 ≤ (x4_1 : Int) := of_decide_eq_true (by first | (with_reducible assumption) | assumption)
      have q344 : x4_1 < (l0.length : Int) := of_decide_eq_true (by first | (with_reducible assumption) | assumption)
      obtain ⟨ad344, e344, hx344_0, hx344_1⟩ := at_T101 HR0.out x4_1 p344 q344
      cases e344
      replace hx344_0 := (HB.out.cell (World.block_lt_of_cell? w _ hx344_0)).trans hx344_0
      replace hx344_1 := (HB.out.cell (World.block_lt_of_cell? w _ hx344_1)).trans hx344_1
      replace p344 := eq_true p344
      replace q344 := eq_true q344
      go_wp2_with (first | ((with_reducible refine gate_builtin (b := .append) (xs := #[.tmp 11, .tmp 16]) rfl ?_); at_builtin; refine Kd.R_append k88 (w0 := w) w.heap.size rfl (.tmp 11) (.tmp 16) 50 88 (.agg #[(.string ⟨#[]⟩), (.int .i64 0)]) 24 rfl Tryz.underlying50 info88 rfl (by decide) (by omega) u3 x3_1 (⟨(rd_T101 l0 x4_1).f0, (rd_T101 l0 x4_1).f1⟩ : S88) [.string ((rd_T101 l0 x4_1).f0), .int .i64 ((rd_T101 l0 x4_1).f1)] (fun _ => True) (fun _ => False) rfl rfl ?aP (fun _ hk => hk.elim) ?aF ?aO ?aB ?aS ?aL ?_; (case aP => exact k88_mkM _ _ _ (⟨(rd_T101 l0 x4_1).f0, (rd_T101 l0 x4_1).f1⟩ : S88)); (case aB => exact (by repeat (first | (with_reducible first | exact HB.out | apply below_alloc | apply pw_below_drewN | apply below_drew1) | exact HB.out))); (case aF => exact (fun _ _ => trivial)); (case aO => exact (by (with_reducible repeat (first | apply Kd.R_alloc | apply Kd.R_drewN | apply Kd.R_drew)); exact HO_3.out)); (case aS => exact (below_size (by repeat (first | (with_reducible first | exact HB.out | apply below_alloc | apply pw_below_drewN | apply below_drew1) | exact HB.out)))); (case aL => have := LMc4.out; omega); intro v346 w5 ho hb hg hat; rw [← Ny345.out] at ho; have n0_ := Aside0.mk (hb); have n1_ := Aside0.mk (ho); clear HB; clear HO_3; have HB := n0_; have HO347 := n1_; clear n0_ n1_; clear ho hb hg hat))
      go_roundg k1
      case measure => have := HK1.out; omega
      case rel => exact ⟨(y345), (wrap64 (x4_1 + 1)), (by first | rfl | (simp; done) | (simp [*]; done)), H', ⟨by have := HK1.out; omega⟩, ⟨by (with_reducible repeat (first | apply Kd.R_alloc | apply Kd.R_drewN | apply Kd.R_drew)); exact HO347.out⟩, ⟨by repeat (first | (with_reducible first | exact HB.out | apply below_alloc | apply pw_below_drewN | apply below_drew1) | exact HB.out)⟩⟩
     ·rw [if_neg c4] at H
      exact absurd H (by simp)
    ·rw [if_neg c3] at H
     exact absurd H (by simp)
   ·rw [if_neg c2] at H
    have c2b0 : decide (x4_1 < (l0.length : Int)) = false := decide_eq_false c2
    clear c2
    obtain rfl := Option.some.inj H
    go_wp2
    go_ret
    exact ⟨_, by first | rfl | (simp [errW_none, errW_some] <;> rfl) | (simp [*, errW_none, errW_some] <;> rfl) | (exfalso; simp only [beq_iff_eq, decide_eq_true_eq] at *; omega), by (with_reducible repeat (first | apply Kd.R_alloc | apply Kd.R_drewN | apply Kd.R_drew)); exact HO_3.out, by repeat (first | (with_reducible first | exact HB.out | apply below_alloc | apply pw_below_drewN | apply below_drew1) | exact HB.out)⟩

/-! ### undercroftplain_CopyBytes: function 30 -/
def undercroftplain_CopyBytes.f (l0 : List Int) : Option (List Int) := if ([] : List Int).length + l0.length < 140737488355328 then (some (([] : List Int) ++ l0)) else (none)
set_option maxHeartbeats 8000000 in
set_option maxRecDepth 100000 in
theorem undercroftplain_CopyBytes.calls (A0 : Option Addr) (c0 : Nat) (l0 : List Int) (r : List Int) (w : World) (hr0 : Kd.C (Kd.int .u8) w A0 l0.length l0) (hc0 : l0.length ≤ c0) (h : undercroftplain_CopyBytes.f l0 = some r) :
  Calls Tryz.prog 30 #[.slice A0 l0.length c0] w fun e w' => ∃ v0_ : Value, e = .returned (v0_) ∧ Kd.R (Kd.int .u8) 5 w' w.heap.size (fun _ => True) v0_ r ∧ Below w.heap.size w w' := by
 have HR0 := Aside0.mk hr0
 have HC0 := Aside0.mk hc0
 clear hr0 hc0
 have HB := Aside0.mk (Below.refl w.heap.size w)
 have H : (if ([] : List Int).length + l0.length < 140737488355328 then (some (([] : List Int) ++ l0)) else (none)) = some r := h
 clear h
 by_cases c2 : ([] : List Int).length + l0.length < 140737488355328
 ·rw [if_pos c2] at H
  have LMc2 := Aside0.mk c2
  clear c2
  obtain ⟨y348, hy348⟩ : ∃ y_ : List Int, y_ = (([] : List Int) ++ l0) := ⟨_, rfl⟩
  replace H : (some y348) = some r := by first | (rw [hy348]; with_reducible exact H) | (have H2_ := (Option.bind_some _ _).symm.trans H; rw [hy348]; with_reducible exact H2_) | (have H2_ := (Option.bind_some _ _).symm.trans H; with_reducible exact H2_) | with_reducible exact H | (rw [hy348]; exact H) | exact H
  have Ny348 := Aside0.mk hy348
  clear hy348
  obtain rfl := Option.some.inj H
  go_enter Tryz.func30, Tryz.ntmps30
  go_wp2_with (first | ((with_reducible refine gate_builtin (b := .append) (xs := #[.tmp 4, .tmp 5]) rfl ?_); at_builtin; refine Kd.R_append_rows (Kd.int .u8) (w0 := w) w.heap.size rfl (.tmp 4) (.tmp 5) 41 5 (.int .u8 0) 1 rfl Tryz.underlying41 info5 rfl (by decide) (by omega) (.slice none 0 0) ([] : List Int) l0 _ _ _ (fun _ => True) (fun _ => False) rfl rfl ?aO ?aR (fun _ _ h => h) (fun _ h => h.elim) ?aF ?aB ?aS ?aL ?_; (case aR => repeat (first | exact HR0.out | (with_reducible refine Kd.C_alloc ?_ _) | (with_reducible refine Kd.C_drewN ?_ _) | (with_reducible refine Kd.C_drew ?_))); (case aB => exact (by repeat (first | (with_reducible first | exact HB.out | apply below_alloc | apply pw_below_drewN | apply below_drew1) | exact HB.out))); (case aF => exact (fun _ _ => trivial)); (case aO => exact ((Kd.R_nil _ _ _ _ (fun _ => True)))); (case aS => exact (below_size (by repeat (first | (with_reducible first | exact HB.out | apply below_alloc | apply pw_below_drewN | apply below_drew1) | exact HB.out)))); (case aL => have := LMc2.out; omega); intro v349 w3 ho hb hg hat; rw [← Ny348.out] at ho; have n0_ := Aside0.mk (hb); have n1_ := Aside0.mk (ho); clear HB; have HB := n0_; have HO350 := n1_; clear n0_ n1_; clear ho hb hg hat))
  go_ret
  exact ⟨_, by first | rfl | (simp [errW_none, errW_some] <;> rfl) | (simp [*, errW_none, errW_some] <;> rfl) | (exfalso; simp only [beq_iff_eq, decide_eq_true_eq] at *; omega), by (with_reducible repeat (first | apply Kd.R_alloc | apply Kd.R_drewN | apply Kd.R_drew)); exact HO350.out, by repeat (first | (with_reducible first | exact HB.out | apply below_alloc | apply pw_below_drewN | apply below_drew1) | exact HB.out)⟩
 ·rw [if_neg c2] at H
  exact absurd H (by simp)

end Go.Proofs.YtfakjmjkodkceaaGreatDoor.PImw
