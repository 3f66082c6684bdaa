-- Written by a program of this session (gen.py).
import Derived.Test.YtkcianklokikoaaDoorPWlix0
import Derived.Test.YtkcianklokikoaaDoorPWlix2
namespace Go.Proofs.YtkcianklokikoaaDoor.PWli
open Go.RowKit Go.Proofs.YtkcianklokikoaaDoorW.PrintWords Go.Proofs.YtkcianklokikoaaDoorW.PrintLast Go.Proofs.YtkcianklokikoaaDoorW.PrintMore
open Go.Proofs.YtkcianklokikoaaDoor.Own
attribute [local go_sem high] unary_not_u32 unary_not_u64 unary_not_u8 string_leq_ string_gtr_
attribute [local go_sem] max2_int min2_int max_two min_two max_three min_three max_four min_four   -- for this text's walks alone
set_option linter.unusedVariables false
set_option linter.unusedSimpArgs false

/-! ### undercroftref05_Split: function 14 -/
/-- A reader at g over b, at a place, with an error; what it reads lies in w0. -/
structure Rr (w0 W : World) (g : Nat) (A : Option Addr) (c : Nat) (b : List Int) (at_ : Nat) (er : Int) : Prop where
  low : w0.heap.size ≤ g
  below : Below w0.heap.size w0 W
  oct : oct5 b = true
  box : W.heap[g]? = some (.cells #[.slice A b.length c, .int .i64 (at_ : Int), .int .i64 er] 65 (0, 0))
  cap : b.length ≤ c
  reads : Kd.C (Kd.int .u8) w0 A b.length b
  le : at_ ≤ b.length
  small : b.length ≤ 2097152
theorem Rr.moved {w0 W W' : World} {g : Nat} {A : Option Addr} {c : Nat} {b : List Int} {at_ : Nat} {er : Int} (h : Rr w0 W g A c b at_ er) (hb : Below W.heap.size W W') : Rr w0 W' g A c b at_ er :=
  ⟨h.low, below_step h.below hb, h.oct, (hb.block g (blk_lt h.box)).trans h.box, h.cap, h.reads, h.le, h.small⟩
theorem Rr.moved2 {w0 W W' : World} {g d : Nat} {A : Option Addr} {c : Nat} {b : List Int} {at_ : Nat} {er : Int} (h : Rr w0 W g A c b at_ er) (hb : Below d W W') (hg : g < d) : Rr w0 W' g A c b at_ er :=
  ⟨h.low, h.below.trans (Below.mono hb (by have := h.low; omega)), h.oct, (hb.block g hg).trans h.box, h.cap, h.reads, h.le, h.small⟩
theorem Rr.drewN {w0 W : World} {g : Nat} {A : Option Addr} {c : Nat} {b : List Int} {at_ : Nat} {er : Int} (h : Rr w0 W g A c b at_ er) (n : Nat) : Rr w0 (W.drewN n) g A c b at_ er := h.moved (pw_below_drewN (Below.refl _ _) n)
theorem Rr.setAt {w0 W : World} {g : Nat} {A : Option Addr} {c : Nat} {b : List Int} {at_ : Nat} {er : Int} (h : Rr w0 W g A c b at_ er) (k : Nat) (hk : k ≤ b.length) : Rr w0 (W.setCell ⟨g, 1, none⟩ (.int .i64 (k : Int))) g A c b k er := ⟨h.low, Below.setCell (p := ⟨g, 1, none⟩) h.below h.low _, h.oct, blk_put h.box 1 _ rfl, h.cap, h.reads, hk, h.small⟩
theorem Rr.setEr {w0 W : World} {g : Nat} {A : Option Addr} {c : Nat} {b : List Int} {at_ : Nat} {er : Int} (h : Rr w0 W g A c b at_ er) (k : Int) : Rr w0 (W.setCell ⟨g, 2, none⟩ (.int .i64 k)) g A c b at_ k := ⟨h.low, Below.setCell (p := ⟨g, 2, none⟩) h.below h.low _, h.oct, blk_put h.box 2 _ rfl, h.cap, h.reads, h.le, h.small⟩
set_option maxHeartbeats 8000000 in
set_option maxRecDepth 100000 in
theorem rtake_err (w0 W : World) (g n : Nat) (A : Option Addr) (c : Nat) (b : List Int) (at_ : Nat) (er : Int) (hs : Rr w0 W g A c b at_ er) (he : ¬ er = 0) :
    Calls Tryd.prog 29 #[.pointer (some ⟨g, 0, none⟩), .int .i64 (n : Int)] W fun e w' => e = .returned (.slice none 0 0) ∧ Rr w0 w' g A c b at_ er ∧ Kept W w' (fun k => k = g) := by
  have HS := Aside0.mk hs
  have hc2 : W.cell? ⟨g, 2, none⟩ = some (.int .i64 er) := (blk_cell hs.box 2).trans rfl
  have hb1 : (er != 0) = true := bne_iff_ne.2 he
  have hb2 : (er == 0) = false := beq_eq_false_iff_ne.2 he
  have hb3 : (er = 0) = False := eq_false he
  have HK := Aside0.mk (Kept.refl W (fun k => k = g))
  clear hs he
  go_enter Tryd.func29, Tryd.ntmps29
  go_wp2
  go_ret
  exact ⟨rfl, HS.out, HK.out⟩
set_option maxHeartbeats 8000000 in
set_option maxRecDepth 100000 in
theorem rtake_short (w0 W : World) (g n : Nat) (A : Option Addr) (c : Nat) (b : List Int) (at_ : Nat) (hs : Rr w0 W g A c b at_ 0) (hn : b.length - at_ < n) :
    Calls Tryd.prog 29 #[.pointer (some ⟨g, 0, none⟩), .int .i64 (n : Int)] W fun e w' => e = .returned (.slice none 0 0) ∧ Rr w0 w' g A c b at_ 8 ∧ Kept W w' (fun k => k = g) := by
  have HS := Aside0.mk hs
  have hc0 : W.cell? ⟨g, 0, none⟩ = some (.slice A b.length c) := (blk_cell hs.box 0).trans rfl
  have hc1 : W.cell? ⟨g, 1, none⟩ = some (.int .i64 (at_ : Int)) := (blk_cell hs.box 1).trans rfl
  have hc2 : W.cell? ⟨g, 2, none⟩ = some (.int .i64 0) := (blk_cell hs.box 2).trans rfl
  have hf2 := blk_frozen hs.box 2
  have hw : wrap64 ((b.length : Int) - (at_ : Int)) = ((b.length - at_ : Nat) : Int) := by have h1 := hs.le; have h2 := hs.small; unfold wrap64; omega
  obtain ⟨L, hL⟩ : ∃ L : Nat, L = b.length - at_ := ⟨_, rfl⟩
  rw [← hL] at hw hn
  have hd : decide ((L : Int) < (n : Int)) = true := decide_eq_true (by omega)
  have hp : ((L : Int) < (n : Int)) = True := eq_true (by omega)
  have hp2 : (L < n) = True := eq_true hn
  have HB := Aside0.mk hs.box
  have HK := Aside0.mk (Kept.refl W (fun k => k = g))
  clear hs hn hL
  go_enter Tryd.func29, Tryd.ntmps29
  go_wp2_with fail
  repeat (go_quiet (fail))
  go_wp2
  go_ret
  exact ⟨rfl, (HS.out.drewN _).setEr 8, (HK.out.drewN _).setCell (p := ⟨g, 2, none⟩) (.inl rfl) _⟩
set_option maxHeartbeats 8000000 in
set_option maxRecDepth 100000 in
theorem rtake_good (w0 W : World) (g n : Nat) (A : Option Addr) (c : Nat) (b : List Int) (at_ : Nat) (hs : Rr w0 W g A c b at_ 0) (hn : ¬ b.length - at_ < n) :
    Calls Tryd.prog 29 #[.pointer (some ⟨g, 0, none⟩), .int .i64 (n : Int)] W fun e w' => ∃ A1 c1, e = .returned (.slice A1 n c1) ∧ n ≤ c1 ∧ Kd.C (Kd.int .u8) w0 A1 n ((b.drop at_).take n) ∧ Rr w0 w' g A c b (at_ + n) 0 ∧ Kept W w' (fun k => k = g) := by
  have HS := Aside0.mk hs
  have hc0 : W.cell? ⟨g, 0, none⟩ = some (.slice A b.length c) := (blk_cell hs.box 0).trans rfl
  have hc1 : W.cell? ⟨g, 1, none⟩ = some (.int .i64 (at_ : Int)) := (blk_cell hs.box 1).trans rfl
  have hc2 : W.cell? ⟨g, 2, none⟩ = some (.int .i64 0) := (blk_cell hs.box 2).trans rfl
  have hf1 := blk_frozen hs.box 1
  have h1 := hs.le
  have h2 := hs.small
  have h3 := hs.cap
  have hw : wrap64 ((b.length : Int) - (at_ : Int)) = ((b.length - at_ : Nat) : Int) := by unfold wrap64; omega
  have hw2 : wrap64 ((at_ : Int) + (n : Int)) = ((at_ + n : Nat) : Int) := by unfold wrap64; omega
  have hw3 : wrap64 (((at_ + n : Nat) : Int) - (n : Int)) = (at_ : Int) := by unfold wrap64; omega
  have HK := Aside0.mk (Kept.refl W (fun k => k = g))
  obtain ⟨i0, hi0, hz0, hs0, _⟩ := info_parts info5
  have hlen : ((b.drop at_).take n).length = n := by rw [List.length_take, List.length_drop]; omega
  have hC1 := Kd.C_drop hs.reads h1 h3
  have hC2 := Kd.C_take (m := n) hC1 (by rw [List.length_drop]; omega)
  rw [hlen] at hC2
  have hC2 : Kd.C (Kd.int .u8) w0 (if c = at_ then A else A.map (·.add (at_ * 1))) n ((b.drop at_).take n) := hC2
  have hcut : ∀ W : World, (Instr.slice 23 (.slice A b.length c) (some (.int .i64 (at_ : Int))) (some (.int .i64 ((at_ + n : Nat) : Int))) none).run Tryd.prog W = .ok (.slice (if c = at_ then A else A.map (·.add (at_ * 1))) n (c - at_)) W := fun W => by
    have h_ := cut_mid (P := Tryd.prog) 23 5 .i64 .i64 Tryd.underlying23 hi0 1 hs0 A b.length c (at_ : Int) ((at_ + n : Nat) : Int) (by omega) (by omega) (by omega) h3 W
    rw [Int.toNat_natCast, Int.toNat_natCast, show at_ + n - at_ = n by omega] at h_
    exact h_
  generalize (if c = at_ then A else A.map (·.add (at_ * 1))) = A1 at hcut hC2
  have hle : n ≤ c - at_ := by omega
  obtain ⟨L, hL⟩ : ∃ L : Nat, L = b.length - at_ := ⟨_, rfl⟩
  rw [← hL] at hw hn
  have hd : decide ((L : Int) < (n : Int)) = false := decide_eq_false (by omega)
  have hp : ((L : Int) < (n : Int)) = False := eq_false (by omega)
  have hp2 : (L < n) = False := eq_false hn
  obtain ⟨M, hM⟩ : ∃ M : Nat, M = at_ + n := ⟨_, rfl⟩
  rw [← hM] at hw2 hw3 hcut ⊢
  have HML := Aside0.mk (show M ≤ b.length by omega)
  have HB := Aside0.mk hs.box
  have HC := Aside0.mk hC2
  have HLE := Aside0.mk hle
  clear hs hn hL hM hC1 hC2 hle hlen h1 h2 h3 hi0 hz0 hs0
  go_enter Tryd.func29, Tryd.ntmps29
  go_wp2_with fail
  repeat (go_quiet (fail))
  go_wp2_with fail
  repeat (go_quiet (fail))
  go_wp2
  go_ret
  exact ⟨A1, c - at_, rfl, HLE.out, HC.out, ((HS.out.drewN _).setAt M HML.out).drewN _, ((HK.out.drewN _).setCell (p := ⟨g, 1, none⟩) (.inl rfl) _).drewN _⟩
/-- What a reader takes. -/
def rtakeI (b : List Int) (n at_ : Nat) (er : Int) : List Int × Nat × Int := if er = 0 then (if b.length - at_ < n then ([], at_, 8) else ((b.drop at_).take n, at_ + n, 0)) else ([], at_, er)
theorem rtake_calls (w0 W : World) (g n : Nat) (A : Option Addr) (c : Nat) (b : List Int) (at_ : Nat) (er : Int) (hs : Rr w0 W g A c b at_ er) (t : List Int) (at2 : Nat) (er2 : Int) (h : rtakeI b n at_ er = (t, at2, er2)) :
    Calls Tryd.prog 29 #[.pointer (some ⟨g, 0, none⟩), .int .i64 (n : Int)] W fun e w' => ∃ A1 c1, e = .returned (.slice A1 t.length c1) ∧ t.length ≤ c1 ∧ Kd.C (Kd.int .u8) w0 A1 t.length t ∧ Rr w0 w' g A c b at2 er2 ∧ Kept W w' (fun k => k = g) := by
  unfold rtakeI at h
  by_cases he : er = 0
  · rw [if_pos he] at h
    subst he
    by_cases hn : b.length - at_ < n
    · rw [if_pos hn] at h
      cases h
      refine (rtake_short w0 W g n A c b at_ hs hn).mono ?_
      rintro e w' ⟨rfl, h1, h2⟩
      exact ⟨none, 0, rfl, Nat.le_refl _, ⟨rfl, by decide, fun h => absurd h (by decide)⟩, h1, h2⟩
    · rw [if_neg hn] at h
      cases h
      have hlen : ((b.drop at_).take n).length = n := by rw [List.length_take, List.length_drop]; omega
      refine (rtake_good w0 W g n A c b at_ hs hn).mono ?_
      rintro e w' ⟨A1, c1, rfl, h0, h3, h1, h2⟩
      rw [hlen]
      exact ⟨A1, c1, rfl, h0, h3, h1, h2⟩
  · rw [if_neg he] at h
    cases h
    refine (rtake_err w0 W g n A c b at_ er hs he).mono ?_
    rintro e w' ⟨rfl, h1, h2⟩
    exact ⟨none, 0, rfl, Nat.le_refl _, ⟨rfl, by decide, fun h => absurd h (by decide)⟩, h1, h2⟩
/-- An octet of a reader. -/
def roctI (b : List Int) (at_ : Nat) (er : Int) : Int × Nat × Int := if er = 0 then (match b[at_]? with | none => (0, at_, 8) | some x => (x, at_ + 1, 0)) else (0, at_, er)
set_option maxHeartbeats 8000000 in
set_option maxRecDepth 100000 in
theorem roct_bad (w0 W : World) (g : Nat) (A : Option Addr) (c : Nat) (b : List Int) (at_ : Nat) (er : Int) (hs : Rr w0 W g A c b at_ er) (at2 : Nat) (er2 : Int) (h : rtakeI b 1 at_ er = ([], at2, er2)) (h0 : ¬ er2 = 0) :
    Calls Tryd.prog 27 #[.pointer (some ⟨g, 0, none⟩)] W fun e w' => e = .returned (.int .i64 0) ∧ Rr w0 w' g A c b at2 er2 ∧ Kept W w' (fun k => k = g) := by
  have HS := Aside0.mk hs
  have H := Aside0.mk h
  have hb1 : (er2 != 0) = true := bne_iff_ne.2 h0
  have hb2 : (er2 == 0) = false := beq_eq_false_iff_ne.2 h0
  have hb3 : (er2 = 0) = False := eq_false h0
  clear hs h h0
  go_enter Tryd.func27, Tryd.ntmps27
  go_wp2_with (first
    | (go_at_call 29; go_loud (refine (rtake_calls w0 _ g 1 A c b at_ er HS.out [] at2 er2 H.out).mono ?_; rintro e w1 ⟨A1, c1, rfl, h0, h3, h1, h2⟩; have hc2 : w1.cell? ⟨g, 2, none⟩ = some (.int .i64 er2) := (blk_cell h1.box 2).trans rfl; have H1 := Aside0.mk h1; have H2 := Aside0.mk h2; clear h0 h1 h2 h3; simp only [List.length_nil])))
  go_ret
  exact ⟨rfl, H1.out, H2.out⟩
set_option maxHeartbeats 8000000 in
set_option maxRecDepth 100000 in
theorem roct_good (w0 W : World) (g : Nat) (A : Option Addr) (c : Nat) (b : List Int) (at_ : Nat) (x : Int) (hs : Rr w0 W g A c b at_ 0) (hx : b[at_]? = some x) :
    Calls Tryd.prog 27 #[.pointer (some ⟨g, 0, none⟩)] W fun e w' => e = .returned (.int .i64 x) ∧ Rr w0 w' g A c b (at_ + 1) 0 ∧ Kept W w' (fun k => k = g) := by
  obtain ⟨hlt, hxe⟩ := List.getElem?_eq_some_iff.1 hx
  have e1 : (b.drop at_).take 1 = [x] := by rw [List.drop_eq_getElem_cons hlt, hxe]; rfl
  have ht : rtakeI b 1 at_ 0 = ([x], at_ + 1, 0) := by unfold rtakeI; rw [if_pos rfl, if_neg (by omega), e1]
  have hb := oct5_at hs.oct (List.mem_of_getElem? hx)
  have hw : wrap64 x = x := by unfold wrap64; omega
  have hq : Calls Tryd.prog 29 #[.pointer (some ⟨g, 0, none⟩), .int .i64 ((1 : Nat) : Int)] W fun e w' => ∃ ad c1, e = .returned (.slice (some ad) 1 c1) ∧ w'.cell? ad = some (.int .u8 x) ∧ Rr w0 w' g A c b (at_ + 1) 0 ∧ Kept W w' (fun k => k = g) := by
    refine (rtake_calls w0 W g 1 A c b at_ 0 hs [x] (at_ + 1) 0 ht).mono ?_
    rintro e w1 ⟨A1, c1, rfl, h0, h3, h1, h2⟩
    have h3 : Kd.C (Kd.int .u8) w0 A1 1 [x] := h3
    obtain ⟨ad, rfl, hy⟩ := Kd.at_int h3 0 (by decide) (by decide)
    have hx2 : w0.cell? ad = some (.int .u8 x) := by
      have h3 : w0.cell? (ad.add 0) = some (.int .u8 x) := hy
      rwa [show ad.add 0 = ad from rfl] at h3
    exact ⟨ad, c1, rfl, pw_cell_below h1.below hx2, h1, h2⟩
  have HQ := Aside0.mk hq
  clear hs hx e1 ht hb hlt hxe hq
  go_enter Tryd.func27, Tryd.ntmps27
  go_wp2_with (first
    | (go_at_call 29; go_loud (refine Calls.mono HQ.out ?_; rintro e w1 ⟨ad, c1, rfl, hcx, h1, h2⟩; have hc2 : w1.cell? ⟨g, 2, none⟩ = some (.int .i64 0) := (blk_cell h1.box 2).trans rfl; have H1 := Aside0.mk h1; have H2 := Aside0.mk h2; clear h1 h2)))
  go_ret
  exact ⟨by rw [hw]; rfl, H1.out, H2.out⟩
theorem roct_calls (w0 W : World) (g : Nat) (A : Option Addr) (c : Nat) (b : List Int) (at_ : Nat) (er : Int) (hs : Rr w0 W g A c b at_ er) (x : Int) (at2 : Nat) (er2 : Int) (h : roctI b at_ er = (x, at2, er2)) :
    Calls Tryd.prog 27 #[.pointer (some ⟨g, 0, none⟩)] W fun e w' => e = .returned (.int .i64 x) ∧ Rr w0 w' g A c b at2 er2 ∧ Kept W w' (fun k => k = g) := by
  unfold roctI at h
  by_cases he : er = 0
  · rw [if_pos he] at h
    subst he
    cases hq : b[at_]? with
    | none =>
      rw [hq] at h
      cases h
      have := List.getElem?_eq_none_iff.1 hq
      exact roct_bad w0 W g A c b at_ 0 hs at_ 8 (by unfold rtakeI; rw [if_pos rfl, if_pos (by omega)]) (by decide)
    | some y =>
      rw [hq] at h
      cases h
      exact roct_good w0 W g A c b at_ x hs hq
  · rw [if_neg he] at h
    cases h
    exact roct_bad w0 W g A c b at_ er hs at_ er (by unfold rtakeI; rw [if_neg he]) he
def remAt (L : Nat) (W : World) (g : Nat) : Nat := match W.cell? ⟨g, 2, none⟩, W.cell? ⟨g, 1, none⟩ with | some (.int _ e), some (.int _ a) => if e = 0 then L + 1 - a.toNat else 0 | _, _ => 0
theorem remAt_is {w0 W : World} {g : Nat} {A : Option Addr} {c : Nat} {b : List Int} {at_ : Nat} {er : Int} (h : Rr w0 W g A c b at_ er) : remAt b.length W g = if er = 0 then b.length + 1 - at_ else 0 := by
  unfold remAt
  rw [show W.cell? ⟨g, 2, none⟩ = some (.int .i64 er) from (blk_cell h.box 2).trans rfl, show W.cell? ⟨g, 1, none⟩ = some (.int .i64 (at_ : Int)) from (blk_cell h.box 1).trans rfl]
  rfl
theorem rtake_len {b t : List Int} {n at_ at2 : Nat} {er er2 : Int} (h : rtakeI b n at_ er = (t, at2, er2)) : t.length ≤ b.length := by
  unfold rtakeI at h
  split at h
  · split at h
    · cases h; simp
    · cases h; rw [List.length_take, List.length_drop]; omega
  · cases h; simp
theorem roct_oct {b : List Int} (ho : oct5 b = true) {at_ at2 : Nat} {er er2 x : Int} (h : roctI b at_ er = (x, at2, er2)) : 0 ≤ x ∧ x ≤ 255 := by
  unfold roctI at h
  split at h
  · cases hq : b[at_]? with
    | none => rw [hq] at h; cases h; omega
    | some y => rw [hq] at h; cases h; exact oct5_at ho (List.mem_of_getElem? hq)
  · cases h; omega
theorem rstep_plain {b tk : List Int} {at_ F at2 n at3 : Nat} {acc : List (List Int)} {RR : List (List Int) × Option Int} {x y er2 er3 : Int} (hx : b[at_]? = some x) (h2 : roctI b (at_ + 1) 0 = (y, at2, er2)) (hn : (n : Int) = x * 256 + y) (ht : rtakeI b n at2 er2 = (tk, at3, er3)) (hR : splitF (F + 1) acc (b.drop at_) = RR) :
    (er3 = 0 ∧ at3 ≤ b.length ∧ at_ + 2 ≤ at3 ∧ splitF F (acc ++ [tk]) (b.drop at3) = RR) ∨ (er3 = 8 ∧ RR = ([], some 8)) := by
  obtain ⟨hlt, hxe⟩ := List.getElem?_eq_some_iff.1 hx
  rw [List.drop_eq_getElem_cons hlt, hxe] at hR
  unfold roctI at h2
  rw [if_pos rfl] at h2
  cases hq : b[at_ + 1]? with
  | none =>
    rw [hq] at h2
    cases h2
    have h3 := List.getElem?_eq_none_iff.1 hq
    rw [List.drop_eq_nil_of_le (by omega)] at hR
    unfold rtakeI at ht
    rw [if_neg (by decide)] at ht
    cases ht
    exact .inr ⟨rfl, hR.symm⟩
  | some z =>
    rw [hq] at h2
    cases h2
    obtain ⟨hlt2, hze⟩ := List.getElem?_eq_some_iff.1 hq
    rw [List.drop_eq_getElem_cons hlt2, hze] at hR
    unfold rtakeI at ht
    rw [if_pos rfl] at ht
    by_cases h : b.length - (at_ + 1 + 1) < n
    · rw [if_pos h] at ht
      cases ht
      rw [splitF_short hn (by rw [List.length_drop]; omega)] at hR
      exact .inr ⟨rfl, hR.symm⟩
    · rw [if_neg h] at ht
      cases ht
      rw [splitF_step hn (by rw [List.length_drop]; omega), List.drop_drop] at hR
      exact .inl ⟨rfl, by omega, by omega, hR⟩
set_option maxHeartbeats 8000000 in
set_option maxRecDepth 100000 in
theorem rsplit_main (A0 : Option Addr) (c0 : Nat) (b : List Int) (w : World) (hr0 : Kd.C (Kd.int .u8) w A0 b.length b) (hc0 : b.length ≤ c0) (ho : oct5 b = true) (hm : b.length ≤ 2097152) (RR : List (List Int) × Option Int) (hR : splitF (b.length + 1) [] b = RR) :
    Calls Tryd.prog 14 #[.slice A0 b.length c0] w fun e w' => ∃ v0_ : Value, e = .returned (.tuple #[v0_, .int .i64 (splitR RR).2]) ∧ Kd.S (Kd.slice 5 (Kd.int .u8)) 23 w' w.heap.size (fun _ => True) v0_ (splitR RR).1 ∧ Below w.heap.size w w' := by
  have HR0 := Aside0.mk hr0
  have HC0 := Aside0.mk hc0
  have HO := Aside0.mk ho
  have HM := Aside0.mk hm
  have HRR := Aside0.mk hR
  clear hr0 hc0 ho hm hR
  go_enter Tryd.func14, Tryd.ntmps14
  go_wp2_with (first
    | ((with_reducible refine gate_dst (N := 9) rfl ?_); (try (refine gate_guard (by rfl) ?_; dsimp only)); refine box_event ?hg (N := 9) ?hd (cs := #[.slice A0 b.length c0, .int .i64 0, .int .i64 0]) (t := 65) ?hr ?_; (case hd => rfl); (case hg => rfl); (case hr => first | (go_simp; done) | (go_simp; rfl)); intro gs hg w1 hbox hb; go_loud (have HGS := Aside0.mk hg; have HSC := Aside0.mk (Rr.mk (w0 := w) (W := w1) (g := gs) (A := A0) (c := c0) (b := b) (at_ := 0) (er := 0) (Nat.le_of_eq hg.symm) hb HO.out hbox HC0.out HR0.out (Nat.zero_le _) HM.out); have HB1 := Aside0.mk hb; clear hb hg hbox)))
  have HGB := Aside0.mk (blk_lt HSC.out.box)
  go_loopw [4] (fun v4 W1 => ∃ (f : Nat) (acc : List (List Int)) (at_ : Nat) (er : Int), Aside0 ((er = 0 ∧ b.length - at_ < f ∧ acc.length + (b.length - at_) ≤ 2097152 ∧ splitF f acc (b.drop at_) = RR) ∨ (er = 8 ∧ RR = ([], some 8))) ∧ Aside0 (Kd.S (Kd.slice 5 (Kd.int .u8)) 23 W1 w1.heap.size (fun k => w1.heap.size ≤ k) v4 acc) ∧ Aside0 (Rr w W1 gs A0 c0 b at_ er) ∧ Aside0 (Kept w1 W1 (fun k => k = gs))) (fun _ W1 => remAt b.length W1 gs)
  case atStart => exact ⟨b.length + 1, [], 0, 0, ⟨.inl ⟨rfl, by omega, by have := HM.out; simp; omega, HRR.out⟩⟩, ⟨Kd.S_nil _ _ _ _ _⟩, HSC, ⟨Kept.refl _ _⟩⟩
  case round =>
    obtain ⟨f, acc, at_, er, HF, HOUT, HS, HK⟩ := hrel
    clear HRR HSC
    have hc1 := (blk_cell HS.out.box 1).trans (show _ = some (Value.int .i64 (at_ : Int)) from rfl)
    have hc2 := (blk_cell HS.out.box 2).trans (show _ = some (Value.int .i64 er) from rfl)
    by_cases he : er = 8
    · subst he
      have hR : RR = ([], some 8) := by
        rcases HF.out with h | h
        · exact absurd h.1 (by decide)
        · exact h.2
      have hsr : splitR RR = ([], 8) := by rw [hR]; rfl
      by_cases hlt : at_ < b.length
      · have hd : decide ((at_ : Int) < (b.length : Int)) = true := decide_eq_true (by omega)
        have hp : ((at_ : Int) < (b.length : Int)) = True := eq_true (by omega)
        have hp2 : (at_ < b.length) = True := eq_true hlt
        clear hR hlt
        go_wp2_with fail
        repeat (go_quiet (fail))
        go_wp2
        go_ret2
        rw [hsr]
        exact ⟨_, rfl, Kd.S_nil _ _ _ _ _, pw_below_drewN HS.out.below _⟩
      · have hd : decide ((at_ : Int) < (b.length : Int)) = false := decide_eq_false (by omega)
        have hp : ((at_ : Int) < (b.length : Int)) = False := eq_false (by omega)
        have hp2 : (at_ < b.length) = False := eq_false hlt
        clear hR hlt
        go_wp2_with fail
        repeat (go_quiet (fail))
        go_wp2
        go_ret2
        rw [hsr]
        exact ⟨_, rfl, Kd.S_nil _ _ _ _ _, pw_below_drewN HS.out.below _⟩
    · obtain ⟨rfl, hF1, hF2, hF3⟩ : er = 0 ∧ b.length - at_ < f ∧ acc.length + (b.length - at_) ≤ 2097152 ∧ splitF f acc (b.drop at_) = RR := by
        rcases HF.out with h | h
        · exact h
        · exact absurd h.1 he
      clear he HF
      by_cases hlt : at_ < b.length
      · have hd : decide ((at_ : Int) < (b.length : Int)) = true := decide_eq_true (by omega)
        have hp : ((at_ : Int) < (b.length : Int)) = True := eq_true (by omega)
        have hp2 : (at_ < b.length) = True := eq_true hlt
        obtain ⟨x, hx⟩ : ∃ x, b[at_]? = some x := ⟨_, List.getElem?_eq_getElem hlt⟩
        have ho1 : roctI b at_ 0 = (x, at_ + 1, 0) := by unfold roctI; rw [if_pos rfl, hx]
        rcases ho2 : roctI b (at_ + 1) 0 with ⟨y, at2, er2⟩
        have hxb := roct_oct HS.out.oct ho1
        have hyb := roct_oct HS.out.oct ho2
        obtain ⟨p, rfl⟩ : ∃ p : Nat, x = (p : Int) := ⟨x.toNat, by omega⟩
        obtain ⟨q, rfl⟩ : ∃ q : Nat, y = (q : Int) := ⟨y.toNat, by omega⟩
        obtain ⟨n, hn⟩ : ∃ n : Nat, n = p * 256 + q := ⟨_, rfl⟩
        have hnI : (n : Int) = (p : Int) * 256 + (q : Int) := by omega
        have hw3 : wrap64 ((p : Int) * 256) = (p : Int) * 256 := by unfold wrap64; omega
        have hor : bits BinOp.or IntKind.i64 ((p : Int) * 256) (q : Int) = (n : Int) := by
          have h_ := or_split p (by omega) q (by omega)
          rw [show ((p * 256 : Nat) : Int) = (p : Int) * 256 by omega] at h_
          rw [h_, hn]
        rcases ht : rtakeI b n at2 er2 with ⟨tk, at3, er3⟩
        obtain ⟨F, rfl⟩ : ∃ F, f = F + 1 := ⟨f - 1, by omega⟩
        have hst := rstep_plain hx ho2 hnI ht hF3
        have htl := rtake_len ht
        have HTL := Aside0.mk htl
        have HST := Aside0.mk hst
        have HO1 := Aside0.mk ho1
        have HO2 := Aside0.mk ho2
        have HT := Aside0.mk ht
        have HFF := Aside0.mk (show b.length - at_ < F + 1 ∧ acc.length + (b.length - at_) ≤ 2097152 ∧ at_ < b.length from ⟨hF1, hF2, hlt⟩)
        have HLEN := Aside0.mk (show (acc.length + 1) * 24 ≤ 140737488355328 by omega)
        have HCL := Aside0.mk (show undercroftref02_Copied.f tk = some tk by unfold undercroftref02_Copied.f; rw [if_pos (by have := HM.out; simp; omega)]; rfl)
        have HRM := Aside0.mk (remAt_is HS.out)
        have HSa := HS
        have HN := Aside0.mk hn
        clear hF1 hF2 hF3 hst hnI hxb hyb ho1 ho2 ht hlt hx htl hn
        go_wp2_with (first
          | (go_at_call 27; go_loud (refine (roct_calls w _ gs A0 c0 b at_ 0 HSa.out _ (at_ + 1) 0 HO1.out).mono ?_; rintro e w2 ⟨rfl, h1, h2⟩; have HS2 := Aside0.mk h1; have HK2 := Aside0.mk (HK.out.then_ h2 (fun _ h_ => .inl h_)); have HR2 := Aside0.mk h2; clear h1 h2 HSa))
          | (go_at_call 27; go_loud (refine (roct_calls w _ gs A0 c0 b (at_ + 1) 0 HS2.out _ at2 er2 HO2.out).mono ?_; rintro e w3 ⟨rfl, h1, h2⟩; have HS3 := Aside0.mk h1; have HK3 := Aside0.mk (HK2.out.then_ h2 (fun _ h_ => .inl h_)); have HR3 := Aside0.mk (HR2.out.then_ h2 (fun _ h_ => .inl h_)); clear h1 h2))
          | (go_at_call 29; go_loud (refine (rtake_calls w _ gs n A0 c0 b at2 er2 HS3.out tk at3 er3 HT.out).mono ?_; rintro e w5 ⟨A5, c5, rfl, hc5, hC5, h1, h2⟩; have HS5 := Aside0.mk h1; have HCC5 := Aside0.mk hc5; have HC5 := Aside0.mk hC5; have HK5 := Aside0.mk (HK3.out.then_ h2 (fun _ h_ => .inl h_)); have HKA := Aside0.mk (HR3.out.then_ h2 (fun _ h_ => .inl h_)); clear h1 h2 hc5 hC5; have HO5 := Aside0.mk (Kd.S_mono (ok' := fun k => w1.heap.size ≤ k ∧ k < wr.heap.size) (Kd.S_kept (Kd.S_bound HOUT.out) HKA.out (fun k_ h1_ h2_ => by have h3_ := HGB.out; have h4_ := h1_.1; omega)) (fun k h => ⟨h.1, h.2.2.1⟩)); have HZ5 := Aside0.mk HKA.out.1))
          | (go_at_call 28; go_loud (refine (undercroftref02_Copied.calls A5 c5 tk tk _ (Kd.C_below HC5.out HS5.out.below) HCC5.out HCL.out).mono ?_; rintro e w6 ⟨v6, rfl, ho, hb⟩; obtain ⟨A6, c6, rfl⟩ := Kd.R_slice ho; have HT6 := Aside0.mk ho; have HO6 := Aside0.mk (Kd.S_below HO5.out hb); have HS6 := Aside0.mk (HS5.out.moved hb); have HK6 := Aside0.mk (kept_below HK5.out (Below.mono hb HK5.out.1)); have HZ6 := Aside0.mk hb.size; clear ho hb))
          | ((with_reducible refine gate_builtin (b := .append) (xs := #[.tmp 31, .tmp 36]) rfl ?_); at_builtin; go_loud (refine Kd.S_append (Kd.slice 5 (Kd.int .u8)) (w0 := w6) w1.heap.size rfl (.tmp 31) (.tmp 36) 22 23 (.slice none 0 0) 24 rfl Tryd.underlying22 info23 rfl (by decide) (by omega) u4 acc tk [.slice A6 tk.length c6] (fun k => w1.heap.size ≤ k) (fun k_ => some k_ = (.slice A6 tk.length c6 : Value).ownBlock) rfl rfl ?aP ?aK ?aF ?aO ?aB ?aS ?aL ?_); (case aP => exact Kd.M_row (Kd.R_tight rfl (Kd.R_lower HT6.out HK5.out.1))); (case aK => exact fun k_ hk_ => ⟨Nat.le_trans HK5.out.1 (Kd.R_base HT6.out k_ hk_.symm), fun e_ => by have h1_ := Kd.R_base HT6.out k_ hk_.symm; have h2_ := Kd.S_lt HOUT.out k_ e_.symm; have h3_ := HZ5.out; omega⟩); (case aF => exact fun k hk => Nat.le_trans HK6.out.1 hk); (case aO => exact Kd.S_mono HO6.out (fun k hk => ⟨hk.1, fun e_ => by have h1_ := Kd.R_base HT6.out k e_.symm; have h2_ := hk.2; have h3_ := HZ5.out; omega⟩)); (case aB => exact Below.refl _ _); (case aS => exact HK6.out.1); (case aL => exact HLEN.out); intro v7 w7 ho hb hg_ hat; have HO7 := Aside0.mk ho; have HB7 := Aside0.mk hb; clear ho hb hg_ hat))
        have HS7 := Aside0.mk (HS6.out.moved2 HB7.out HGB.out)
        refine ⟨⟨F, acc ++ [tk], at3, er3, ⟨?_⟩, HO7, HS7, ⟨kept_below HK6.out HB7.out⟩⟩, ?_⟩
        · rcases HST.out with ⟨h1, h2, h3, h4⟩ | h1
          · exact .inl ⟨h1, by have := HFF.out; omega, by have := HFF.out; rw [List.length_append, List.length_singleton]; omega, h4⟩
          · exact .inr h1
        · rw [remAt_is HS7.out, HRM.out, if_pos trivial]
          rcases HST.out with ⟨h1, h2, h3, h4⟩ | ⟨h1, _⟩
          · rw [if_pos h1]; have := HFF.out; omega
          · rw [if_neg (by rw [h1]; decide)]; have := HFF.out; omega
      · have hd : decide ((at_ : Int) < (b.length : Int)) = false := decide_eq_false (by omega)
        have hp : ((at_ : Int) < (b.length : Int)) = False := eq_false (by omega)
        have hp2 : (at_ < b.length) = False := eq_false hlt
        have hR : RR = (acc, none) := by
          rw [← hF3, List.drop_eq_nil_of_le (by omega)]
          cases f with
          | zero => rfl
          | succ f => rfl
        subst hR
        clear hlt hF1 hF2 hF3
        by_cases hbig : 4096 < acc.length
        · have hpb : ((4096 : Int) < (acc.length : Int)) = True := eq_true (by omega)
          have hpb2 : (4096 < acc.length) = True := eq_true hbig
          have hsr : splitR (acc, none) = ([], 3) := by unfold splitR; rw [if_pos hbig]
          obtain ⟨Do, co, rfl⟩ := Kd.S_slice HOUT.out
          clear hbig
          go_wp2
          go_ret2
          rw [hsr]
          exact ⟨_, rfl, Kd.S_nil _ _ _ _ _, HS.out.below⟩
        · have hpb : ((4096 : Int) < (acc.length : Int)) = False := eq_false (by omega)
          have hpb2 : (4096 < acc.length) = False := eq_false hbig
          have hsr : splitR (acc, none) = (acc, 0) := by unfold splitR; rw [if_neg hbig]
          obtain ⟨Do, co, rfl⟩ := Kd.S_slice HOUT.out
          clear hbig
          go_wp2
          go_ret2
          rw [hsr]
          exact ⟨_, rfl, Kd.S_mono (Kd.S_lower HOUT.out HB1.out.size) (fun _ _ => trivial), HS.out.below⟩
def undercroftref05_Split.f (l : List Int) : Option (List (List Int) × Int) := if oct5 l = true ∧ l.length ≤ 2097152 then some (splitR (splitF (l.length + 1) [] l)) else none
theorem undercroftref05_Split.calls (A0 : Option Addr) (c0 : Nat) (l0 : List Int) (r1 : List (List Int)) (r2 : Int) (w : World) (hr0 : Kd.C (Kd.int .u8) w A0 l0.length l0) (hc0 : l0.length ≤ c0) (h : undercroftref05_Split.f l0 = some (r1, r2)) :
    Calls Tryd.prog 14 #[.slice A0 l0.length c0] w fun e w' => ∃ v0_ : Value, e = .returned (.tuple #[v0_, .int .i64 r2]) ∧ Kd.S (Kd.slice 5 (Kd.int .u8)) 23 w' w.heap.size (fun _ => True) v0_ r1 ∧ Below w.heap.size w w' := by
  unfold undercroftref05_Split.f at h
  by_cases hc : oct5 l0 = true ∧ l0.length ≤ 2097152
  · rw [if_pos hc] at h
    have h2 := Option.some.inj h
    have := rsplit_main A0 c0 l0 w hr0 hc0 hc.1 hc.2 _ rfl
    rwa [h2] at this
  · rw [if_neg hc] at h; cases h

/-! ### undercroftplain_SameBytes: function 15 -/
def undercroftplain_SameBytes.l0 : Nat → List Int → List Int → Int → Option (Bool)
  | 0, _, _, _ => none
  | k + 1, x0, x1, x5 => if x5 < (x0.length : Int) then (if 0 ≤ x5 then (if x5 < (x1.length : Int) then (if (rd x0 x5) = (rd x1 x5) then (undercroftplain_SameBytes.l0 k x0 x1 (wrap64 (x5 + 1))) else (some false)) else (none)) else (none)) else (some true)
def undercroftplain_SameBytes.f (k : Nat) (l0 : List Int) (l1 : List Int) : Option (Bool) := if (l0.length : Int) = (l1.length : Int) then (undercroftplain_SameBytes.l0 k l0 l1 0) else (some false)
theorem undercroftplain_SameBytes.mono_l : ∀ k, (∀ y0 y1 y2, LeO (undercroftplain_SameBytes.l0 k y0 y1 y2) (undercroftplain_SameBytes.l0 (k + 1) y0 y1 y2))
  | 0 => fun _ _ _ r h => by simp [undercroftplain_SameBytes.l0] at h
  | k + 1 => by
    have ih0 := undercroftplain_SameBytes.mono_l k
    · intro y0 y1 y2
      unfold undercroftplain_SameBytes.l0
      repeat' first
      | (with_reducible exact ih0 _ _ _)
      | (with_reducible exact LeO.refl _)
      | (with_reducible exact LeO.none _)
      | (with_reducible refine LeO.ite ?_ ?_)
      | (with_reducible refine LeO.bind ?_ (fun _ => ?_))
      | exact ih0 _ _ _
      | exact LeO.none _
      | refine LeO.ite ?_ ?_
      | refine LeO.bind ?_ (fun _ => ?_)
theorem undercroftplain_SameBytes.mono : ∀ a0 a1 k, LeO (undercroftplain_SameBytes.f k a0 a1) (undercroftplain_SameBytes.f (k + 1) a0 a1) := by
  intro a0 a1 k
  have ih0 := undercroftplain_SameBytes.mono_l k
  unfold undercroftplain_SameBytes.f
  repeat' first
      | (with_reducible exact ih0 _ _ _)
      | (with_reducible exact LeO.refl _)
      | (with_reducible exact LeO.none _)
      | (with_reducible refine LeO.ite ?_ ?_)
      | (with_reducible refine LeO.bind ?_ (fun _ => ?_))
      | exact ih0 _ _ _
      | exact LeO.none _
      | refine LeO.ite ?_ ?_
      | refine LeO.bind ?_ (fun _ => ?_)
set_option maxHeartbeats 8000000 in
set_option maxRecDepth 100000 in
theorem undercroftplain_SameBytes.calls (k : Nat) (A0 : Option Addr) (c0 : Nat) (l0 : List Int) (A1 : Option Addr) (c1 : Nat) (l1 : List Int) (r : Bool) (w : World) (hr0 : Kd.C (Kd.int .u8) w A0 l0.length l0) (hc0 : l0.length ≤ c0) (hr1 : Kd.C (Kd.int .u8) w A1 l1.length l1) (hc1 : l1.length ≤ c1) (h : undercroftplain_SameBytes.f k l0 l1 = some r) :
    Calls Tryd.prog 15 #[.slice A0 l0.length c0, .slice A1 l1.length c1] w fun e w' => e = .returned (.bool r) ∧ Drawn0 w w' := by
  have HR0 := Aside0.mk hr0
  have HC0 := Aside0.mk hc0
  clear hr0 hc0
  have HR1 := Aside0.mk hr1
  have HC1 := Aside0.mk hc1
  clear hr1 hc1
  have H : (if (l0.length : Int) = (l1.length : Int) then (undercroftplain_SameBytes.l0 k l0 l1 0) else (some false)) = some r := h
  clear h
  by_cases c3 : (l0.length : Int) = (l1.length : Int)
  · rw [if_pos c3] at H
    have c3b0 : ((l0.length : Int) == (l1.length : Int)) = true := beq_iff_eq.mpr c3
    have c3b1 : ((l0.length : Int) != (l1.length : Int)) = false := bne_eq_false_iff_eq.mpr c3
    have c3b2 : (l0.length == l1.length) = true := by first | simpa using c3 | (simp at c3 ⊢; omega)
    clear c3
    have H' := Aside0.mk H
    clear H
    go_enter Tryd.func15, Tryd.ntmps15
    go_wp2
    repeat (go_quiet (fail); try go_wp2)
    go_loopg [5] k (fun kq v5 w' => ∃ (x5_1 : Int), v5 = .int .i64 x5_1 ∧ Aside0 (undercroftplain_SameBytes.l0 kq l0 l1 x5_1 = some r) ∧ Aside0 (kq ≤ k) ∧ Drawn0 w w')
    case atStart => exact ⟨(0), (by first | rfl | (simp; done) | (simp [*]; done)), H', ⟨Nat.le_refl _⟩, by repeat (first | exact Drawn0.refl _ | apply Drawn0.step)⟩
    case round =>
      clear H'
      try clear c1
      try clear p2
      try clear c3
      try clear c3b0
      try clear c3b1
      try clear c3b2
      obtain ⟨x5_1, rfl, HA, HK1, ⟨m1, rfl⟩⟩ := hrel
      cases gk with
      | zero => exact absurd HA.out (by simp [undercroftplain_SameBytes.l0])
      | succ k1 =>
        have H := HA.out
        clear HA
        simp only [undercroftplain_SameBytes.l0] at H
        by_cases c4 : x5_1 < (l0.length : Int)
        · rw [if_pos c4] at H
          have c4b0 : decide (x5_1 < (l0.length : Int)) = true := decide_eq_true c4
          clear c4
          by_cases c5 : 0 ≤ x5_1
          · rw [if_pos c5] at H
            have c5b0 : decide (0 ≤ x5_1) = true := decide_eq_true c5
            clear c5
            by_cases c6 : x5_1 < (l1.length : Int)
            · rw [if_pos c6] at H
              have c6b0 : decide (x5_1 < (l1.length : Int)) = true := decide_eq_true c6
              clear c6
              by_cases c7 : (rd l0 x5_1) = (rd l1 x5_1)
              · rw [if_pos c7] at H
                have c7b0 : ((rd l0 x5_1) == (rd l1 x5_1)) = true := beq_iff_eq.mpr c7
                have c7b1 : ((rd l0 x5_1) != (rd l1 x5_1)) = false := bne_eq_false_iff_eq.mpr c7
                clear c7
                have H' := Aside0.mk H
                clear H
                have p137 : 0 ≤ (x5_1 : Int) := of_decide_eq_true (by first | (with_reducible assumption) | assumption)
                have q137 : x5_1 < (l0.length : Int) := of_decide_eq_true (by first | (with_reducible assumption) | assumption)
                obtain ⟨ad137, e137, hx137_0⟩ := Kd.at_int HR0.out x5_1 p137 q137
                cases e137
                replace p137 := eq_true p137
                replace q137 := eq_true q137
                have p138 : 0 ≤ (x5_1 : Int) := of_decide_eq_true (by first | (with_reducible assumption) | assumption)
                have q138 : x5_1 < (l1.length : Int) := of_decide_eq_true (by first | (with_reducible assumption) | assumption)
                obtain ⟨ad138, e138, hx138_0⟩ := Kd.at_int HR1.out x5_1 p138 q138
                cases e138
                replace p138 := eq_true p138
                replace q138 := eq_true q138
                go_wp2
                repeat (go_quiet (fail); try go_wp2)
                go_roundg k1
                case measure => have := HK1.out; omega
                case rel => exact ⟨(wrap64 (x5_1 + 1)), (by first | rfl | (simp; done) | (simp [*]; done)), H', ⟨by have := HK1.out; omega⟩, by repeat (first | exact Drawn0.refl _ | apply Drawn0.step)⟩
              · rw [if_neg c7] at H
                have c7b0 : ((rd l0 x5_1) == (rd l1 x5_1)) = false := beq_eq_false_iff_ne.mpr c7
                have c7b1 : ((rd l0 x5_1) != (rd l1 x5_1)) = true := bne_iff_ne.mpr c7
                obtain rfl := Option.some.inj H
                have p137 : 0 ≤ (x5_1 : Int) := of_decide_eq_true (by first | (with_reducible assumption) | assumption)
                have q137 : x5_1 < (l0.length : Int) := of_decide_eq_true (by first | (with_reducible assumption) | assumption)
                obtain ⟨ad137, e137, hx137_0⟩ := Kd.at_int HR0.out x5_1 p137 q137
                cases e137
                replace p137 := eq_true p137
                replace q137 := eq_true q137
                have p138 : 0 ≤ (x5_1 : Int) := of_decide_eq_true (by first | (with_reducible assumption) | assumption)
                have q138 : x5_1 < (l1.length : Int) := of_decide_eq_true (by first | (with_reducible assumption) | assumption)
                obtain ⟨ad138, e138, hx138_0⟩ := Kd.at_int HR1.out x5_1 p138 q138
                cases e138
                replace p138 := eq_true p138
                replace q138 := eq_true q138
                go_wp2
                repeat (go_quiet (fail); try go_wp2)
                go_ret
                exact ⟨by first | rfl | (simp; done) | (simp [*]; done) | (exfalso; simp only [beq_iff_eq, decide_eq_true_eq] at *; omega), by repeat (first | exact Drawn0.refl _ | apply Drawn0.step)⟩
            · rw [if_neg c6] at H
              exact absurd H (by simp)
          · rw [if_neg c5] at H
            exact absurd H (by simp)
        · rw [if_neg c4] at H
          have c4b0 : decide (x5_1 < (l0.length : Int)) = false := decide_eq_false c4
          clear c4
          obtain rfl := Option.some.inj H
          go_wp2
          repeat (go_quiet (fail); try go_wp2)
          go_ret
          exact ⟨by first | rfl | (simp; done) | (simp [*]; done) | (exfalso; simp only [beq_iff_eq, decide_eq_true_eq] at *; omega), by repeat (first | exact Drawn0.refl _ | apply Drawn0.step)⟩
  · rw [if_neg c3] at H
    have c3b0 : ((l0.length : Int) == (l1.length : Int)) = false := beq_eq_false_iff_ne.mpr c3
    have c3b1 : ((l0.length : Int) != (l1.length : Int)) = true := bne_iff_ne.mpr c3
    have c3b2 : (l0.length == l1.length) = false := by first | simpa using c3 | (simp at c3 ⊢; omega)
    obtain rfl := Option.some.inj H
    go_enter Tryd.func15, Tryd.ntmps15
    go_wp2
    repeat (go_quiet (fail); try go_wp2)
    go_ret
    exact ⟨by first | rfl | (simp; done) | (simp [*]; done) | (exfalso; simp only [beq_iff_eq, decide_eq_true_eq] at *; omega), by repeat (first | exact Drawn0.refl _ | apply Drawn0.step)⟩

/-! ### undercroftlaw05_num: function 16 -/
def undercroftlaw05_num.f (a0 : Int) : Option (Int) := some a0
set_option maxHeartbeats 8000000 in
set_option maxRecDepth 100000 in
theorem undercroftlaw05_num.calls (a0 : Int) (r : Int) (w : World) (h : undercroftlaw05_num.f a0 = some r) :
    Calls Tryd.prog 16 #[.int .i64 a0] w fun e w' => e = .returned (.int .i64 r) ∧ Drawn0 w w' := by
  have H : (some a0) = some r := h
  clear h
  obtain rfl := Option.some.inj H
  go_enter Tryd.func16, Tryd.ntmps16
  go_wp2
  go_ret
  exact ⟨by first | rfl | (simp; done) | (simp [*]; done) | (exfalso; simp only [beq_iff_eq, decide_eq_true_eq] at *; omega), by repeat (first | exact Drawn0.refl _ | apply Drawn0.step)⟩

/-! ### undercroftplain_SameLists: function 17 -/
def undercroftplain_SameLists.l0 : Nat → List (List Int) → List (List Int) → Int → Option (Bool)
  | 0, _, _, _ => none
  | k + 1, x0, x1, x5 => if x5 < (x0.length : Int) then (if 0 ≤ x5 then (if x5 < (x1.length : Int) then ((undercroftplain_SameBytes.f k (rd_L1 x0 x5) (rd_L1 x1 x5)).bind fun t141 => (if t141 = true then (undercroftplain_SameLists.l0 k x0 x1 (wrap64 (x5 + 1))) else (some false))) else (none)) else (none)) else (some true)
def undercroftplain_SameLists.f (k : Nat) (l0 : List (List Int)) (l1 : List (List Int)) : Option (Bool) := if (l0.length : Int) = (l1.length : Int) then (undercroftplain_SameLists.l0 k l0 l1 0) else (some false)
theorem undercroftplain_SameLists.mono_l : ∀ k, (∀ y0 y1 y2, LeO (undercroftplain_SameLists.l0 k y0 y1 y2) (undercroftplain_SameLists.l0 (k + 1) y0 y1 y2))
  | 0 => fun _ _ _ r h => by simp [undercroftplain_SameLists.l0] at h
  | k + 1 => by
    have ih0 := undercroftplain_SameLists.mono_l k
    · intro y0 y1 y2
      unfold undercroftplain_SameLists.l0
      repeat' first
      | (with_reducible exact ih0 _ _ _)
      | (with_reducible exact undercroftplain_SameBytes.mono _ _ _)
      | (with_reducible exact LeO.refl _)
      | (with_reducible exact LeO.none _)
      | (with_reducible refine LeO.ite ?_ ?_)
      | (with_reducible refine LeO.bind ?_ (fun _ => ?_))
      | exact ih0 _ _ _
      | exact undercroftplain_SameBytes.mono _ _ _
      | exact LeO.none _
      | refine LeO.ite ?_ ?_
      | refine LeO.bind ?_ (fun _ => ?_)
theorem undercroftplain_SameLists.mono : ∀ a0 a1 k, LeO (undercroftplain_SameLists.f k a0 a1) (undercroftplain_SameLists.f (k + 1) a0 a1) := by
  intro a0 a1 k
  have ih0 := undercroftplain_SameLists.mono_l k
  unfold undercroftplain_SameLists.f
  repeat' first
      | (with_reducible exact ih0 _ _ _)
      | (with_reducible exact undercroftplain_SameBytes.mono _ _ _)
      | (with_reducible exact LeO.refl _)
      | (with_reducible exact LeO.none _)
      | (with_reducible refine LeO.ite ?_ ?_)
      | (with_reducible refine LeO.bind ?_ (fun _ => ?_))
      | exact ih0 _ _ _
      | exact undercroftplain_SameBytes.mono _ _ _
      | exact LeO.none _
      | refine LeO.ite ?_ ?_
      | refine LeO.bind ?_ (fun _ => ?_)
set_option maxHeartbeats 8000000 in
set_option maxRecDepth 100000 in
theorem undercroftplain_SameLists.calls (k : Nat) (A0 : Option Addr) (c0 : Nat) (l0 : List (List Int)) (A1 : Option Addr) (c1 : Nat) (l1 : List (List Int)) (r : Bool) (w : World) (hr0 : Kd.C (Kd.slice 5 (Kd.int .u8)) w A0 l0.length l0) (hc0 : l0.length ≤ c0) (hr1 : Kd.C (Kd.slice 5 (Kd.int .u8)) w A1 l1.length l1) (hc1 : l1.length ≤ c1) (h : undercroftplain_SameLists.f k l0 l1 = some r) :
    Calls Tryd.prog 17 #[.slice A0 l0.length c0, .slice A1 l1.length c1] w fun e w' => e = .returned (.bool r) ∧ Drawn0 w w' := by
  have HR0 := Aside0.mk hr0
  have HC0 := Aside0.mk hc0
  clear hr0 hc0
  have HR1 := Aside0.mk hr1
  have HC1 := Aside0.mk hc1
  clear hr1 hc1
  have H : (if (l0.length : Int) = (l1.length : Int) then (undercroftplain_SameLists.l0 k l0 l1 0) else (some false)) = some r := h
  clear h
  by_cases c3 : (l0.length : Int) = (l1.length : Int)
  · rw [if_pos c3] at H
    have c3b0 : ((l0.length : Int) == (l1.length : Int)) = true := beq_iff_eq.mpr c3
    have c3b1 : ((l0.length : Int) != (l1.length : Int)) = false := bne_eq_false_iff_eq.mpr c3
    have c3b2 : (l0.length == l1.length) = true := by first | simpa using c3 | (simp at c3 ⊢; omega)
    clear c3
    have H' := Aside0.mk H
    clear H
    go_enter Tryd.func17, Tryd.ntmps17
    go_wp2
    repeat (go_quiet (fail); try go_wp2)
    go_loopg [5] k (fun kq v5 w' => ∃ (x5_1 : Int), v5 = .int .i64 x5_1 ∧ Aside0 (undercroftplain_SameLists.l0 kq l0 l1 x5_1 = some r) ∧ Aside0 (kq ≤ k) ∧ Drawn0 w w')
    case atStart => exact ⟨(0), (by first | rfl | (simp; done) | (simp [*]; done)), H', ⟨Nat.le_refl _⟩, by repeat (first | exact Drawn0.refl _ | apply Drawn0.step)⟩
    case round =>
      clear H'
      try clear c1
      try clear p2
      try clear c3
      try clear c3b0
      try clear c3b1
      try clear c3b2
      obtain ⟨x5_1, rfl, HA, HK1, ⟨m1, rfl⟩⟩ := hrel
      cases gk with
      | zero => exact absurd HA.out (by simp [undercroftplain_SameLists.l0])
      | succ k1 =>
        have H := HA.out
        clear HA
        simp only [undercroftplain_SameLists.l0] at H
        by_cases c4 : x5_1 < (l0.length : Int)
        · rw [if_pos c4] at H
          have c4b0 : decide (x5_1 < (l0.length : Int)) = true := decide_eq_true c4
          clear c4
          by_cases c5 : 0 ≤ x5_1
          · rw [if_pos c5] at H
            have c5b0 : decide (0 ≤ x5_1) = true := decide_eq_true c5
            clear c5
            by_cases c6 : x5_1 < (l1.length : Int)
            · rw [if_pos c6] at H
              have c6b0 : decide (x5_1 < (l1.length : Int)) = true := decide_eq_true c6
              clear c6
              replace H := Option.bind_eq_some_iff.mp H
              obtain ⟨t141, A70, H⟩ := H
              replace H : (if t141 = true then (undercroftplain_SameLists.l0 k1 l0 l1 (wrap64 (x5_1 + 1))) else (some false)) = some r := H
              have A7 := Aside0.mk A70
              clear A70
              by_cases c8 : t141 = true
              · subst c8
                have H1 : (undercroftplain_SameLists.l0 k1 l0 l1 (wrap64 (x5_1 + 1))) = some r := by rw [if_pos rfl] at H; exact H
                clear H
                have H := H1
                clear H1
                have H' := Aside0.mk H
                clear H
                have p139 : 0 ≤ (x5_1 : Int) := of_decide_eq_true (by first | (with_reducible assumption) | assumption)
                have q139 : x5_1 < (l0.length : Int) := of_decide_eq_true (by first | (with_reducible assumption) | assumption)
                obtain ⟨ad139, A139_0, c139_0, e139, hx139_0, hl139_0, hi139_0⟩ := at_L1 HR0.out x5_1 p139 q139
                cases e139
                have HR139_0 := Aside0.mk hi139_0
                have HC139_0 := Aside0.mk hl139_0
                clear hi139_0 hl139_0
                replace p139 := eq_true p139
                replace q139 := eq_true q139
                have p140 : 0 ≤ (x5_1 : Int) := of_decide_eq_true (by first | (with_reducible assumption) | assumption)
                have q140 : x5_1 < (l1.length : Int) := of_decide_eq_true (by first | (with_reducible assumption) | assumption)
                obtain ⟨ad140, A140_0, c140_0, e140, hx140_0, hl140_0, hi140_0⟩ := at_L1 HR1.out x5_1 p140 q140
                cases e140
                have HR140_0 := Aside0.mk hi140_0
                have HC140_0 := Aside0.mk hl140_0
                clear hi140_0 hl140_0
                replace p140 := eq_true p140
                replace q140 := eq_true q140
                go_wp2_with (first | (go_at_call 15; (with_reducible refine (undercroftplain_SameBytes.calls k1 _ _ (rd_L1 l0 x5_1) _ _ (rd_L1 l1 x5_1) true _ ?side1 ?side2 ?side3 ?side4 A7.out).mono ?_); (case side1 => repeat (first | exact HR139_0.out | (with_reducible refine Kd.C_alloc ?_ _) | (with_reducible refine Kd.C_drewN ?_ _) | (with_reducible refine Kd.C_drew ?_))); (case side2 => exact HC139_0.out); (case side3 => repeat (first | exact HR140_0.out | (with_reducible refine Kd.C_alloc ?_ _) | (with_reducible refine Kd.C_drewN ?_ _) | (with_reducible refine Kd.C_drew ?_))); (case side4 => exact HC140_0.out); rintro e w' ⟨rfl, ⟨nd, rfl⟩⟩; (try first | exact ⟨rfl, _, World.drewN_drewN _ _ _⟩ | exact ⟨rfl, _, Eq.trans (World.drewN_drewN _ _ _) (congrArg (World.drewN _) (Nat.add_assoc _ _ _))⟩)))
                repeat (go_quiet (first | (go_at_call 15; (with_reducible refine (undercroftplain_SameBytes.calls k1 _ _ (rd_L1 l0 x5_1) _ _ (rd_L1 l1 x5_1) true _ ?side1 ?side2 ?side3 ?side4 A7.out).mono ?_); (case side1 => repeat (first | exact HR139_0.out | (with_reducible refine Kd.C_alloc ?_ _) | (with_reducible refine Kd.C_drewN ?_ _) | (with_reducible refine Kd.C_drew ?_))); (case side2 => exact HC139_0.out); (case side3 => repeat (first | exact HR140_0.out | (with_reducible refine Kd.C_alloc ?_ _) | (with_reducible refine Kd.C_drewN ?_ _) | (with_reducible refine Kd.C_drew ?_))); (case side4 => exact HC140_0.out); rintro e w' ⟨rfl, ⟨nd, rfl⟩⟩; (try first | exact ⟨rfl, _, World.drewN_drewN _ _ _⟩ | exact ⟨rfl, _, Eq.trans (World.drewN_drewN _ _ _) (congrArg (World.drewN _) (Nat.add_assoc _ _ _))⟩))); try go_wp2_with (first | (go_at_call 15; (with_reducible refine (undercroftplain_SameBytes.calls k1 _ _ (rd_L1 l0 x5_1) _ _ (rd_L1 l1 x5_1) true _ ?side1 ?side2 ?side3 ?side4 A7.out).mono ?_); (case side1 => repeat (first | exact HR139_0.out | (with_reducible refine Kd.C_alloc ?_ _) | (with_reducible refine Kd.C_drewN ?_ _) | (with_reducible refine Kd.C_drew ?_))); (case side2 => exact HC139_0.out); (case side3 => repeat (first | exact HR140_0.out | (with_reducible refine Kd.C_alloc ?_ _) | (with_reducible refine Kd.C_drewN ?_ _) | (with_reducible refine Kd.C_drew ?_))); (case side4 => exact HC140_0.out); rintro e w' ⟨rfl, ⟨nd, rfl⟩⟩; (try first | exact ⟨rfl, _, World.drewN_drewN _ _ _⟩ | exact ⟨rfl, _, Eq.trans (World.drewN_drewN _ _ _) (congrArg (World.drewN _) (Nat.add_assoc _ _ _))⟩))))
                go_roundg k1
                case measure => have := HK1.out; omega
                case rel => exact ⟨(wrap64 (x5_1 + 1)), (by first | rfl | (simp; done) | (simp [*]; done)), H', ⟨by have := HK1.out; omega⟩, by repeat (first | exact Drawn0.refl _ | apply Drawn0.step)⟩
              · replace c8 := Bool.eq_false_iff.mpr c8
                subst c8
                have H1 : (some false) = some r := by rw [if_neg (show ¬ (false = true) by decide)] at H; exact H
                clear H
                have H := H1
                clear H1
                obtain rfl := Option.some.inj H
                have p139 : 0 ≤ (x5_1 : Int) := of_decide_eq_true (by first | (with_reducible assumption) | assumption)
                have q139 : x5_1 < (l0.length : Int) := of_decide_eq_true (by first | (with_reducible assumption) | assumption)
                obtain ⟨ad139, A139_0, c139_0, e139, hx139_0, hl139_0, hi139_0⟩ := at_L1 HR0.out x5_1 p139 q139
                cases e139
                have HR139_0 := Aside0.mk hi139_0
                have HC139_0 := Aside0.mk hl139_0
                clear hi139_0 hl139_0
                replace p139 := eq_true p139
                replace q139 := eq_true q139
                have p140 : 0 ≤ (x5_1 : Int) := of_decide_eq_true (by first | (with_reducible assumption) | assumption)
                have q140 : x5_1 < (l1.length : Int) := of_decide_eq_true (by first | (with_reducible assumption) | assumption)
                obtain ⟨ad140, A140_0, c140_0, e140, hx140_0, hl140_0, hi140_0⟩ := at_L1 HR1.out x5_1 p140 q140
                cases e140
                have HR140_0 := Aside0.mk hi140_0
                have HC140_0 := Aside0.mk hl140_0
                clear hi140_0 hl140_0
                replace p140 := eq_true p140
                replace q140 := eq_true q140
                go_wp2_with (first | (go_at_call 15; (with_reducible refine (undercroftplain_SameBytes.calls k1 _ _ (rd_L1 l0 x5_1) _ _ (rd_L1 l1 x5_1) false _ ?side1 ?side2 ?side3 ?side4 A7.out).mono ?_); (case side1 => repeat (first | exact HR139_0.out | (with_reducible refine Kd.C_alloc ?_ _) | (with_reducible refine Kd.C_drewN ?_ _) | (with_reducible refine Kd.C_drew ?_))); (case side2 => exact HC139_0.out); (case side3 => repeat (first | exact HR140_0.out | (with_reducible refine Kd.C_alloc ?_ _) | (with_reducible refine Kd.C_drewN ?_ _) | (with_reducible refine Kd.C_drew ?_))); (case side4 => exact HC140_0.out); rintro e w' ⟨rfl, ⟨nd, rfl⟩⟩; (try first | exact ⟨rfl, _, World.drewN_drewN _ _ _⟩ | exact ⟨rfl, _, Eq.trans (World.drewN_drewN _ _ _) (congrArg (World.drewN _) (Nat.add_assoc _ _ _))⟩)))
                repeat (go_quiet (first | (go_at_call 15; (with_reducible refine (undercroftplain_SameBytes.calls k1 _ _ (rd_L1 l0 x5_1) _ _ (rd_L1 l1 x5_1) false _ ?side1 ?side2 ?side3 ?side4 A7.out).mono ?_); (case side1 => repeat (first | exact HR139_0.out | (with_reducible refine Kd.C_alloc ?_ _) | (with_reducible refine Kd.C_drewN ?_ _) | (with_reducible refine Kd.C_drew ?_))); (case side2 => exact HC139_0.out); (case side3 => repeat (first | exact HR140_0.out | (with_reducible refine Kd.C_alloc ?_ _) | (with_reducible refine Kd.C_drewN ?_ _) | (with_reducible refine Kd.C_drew ?_))); (case side4 => exact HC140_0.out); rintro e w' ⟨rfl, ⟨nd, rfl⟩⟩; (try first | exact ⟨rfl, _, World.drewN_drewN _ _ _⟩ | exact ⟨rfl, _, Eq.trans (World.drewN_drewN _ _ _) (congrArg (World.drewN _) (Nat.add_assoc _ _ _))⟩))); try go_wp2_with (first | (go_at_call 15; (with_reducible refine (undercroftplain_SameBytes.calls k1 _ _ (rd_L1 l0 x5_1) _ _ (rd_L1 l1 x5_1) false _ ?side1 ?side2 ?side3 ?side4 A7.out).mono ?_); (case side1 => repeat (first | exact HR139_0.out | (with_reducible refine Kd.C_alloc ?_ _) | (with_reducible refine Kd.C_drewN ?_ _) | (with_reducible refine Kd.C_drew ?_))); (case side2 => exact HC139_0.out); (case side3 => repeat (first | exact HR140_0.out | (with_reducible refine Kd.C_alloc ?_ _) | (with_reducible refine Kd.C_drewN ?_ _) | (with_reducible refine Kd.C_drew ?_))); (case side4 => exact HC140_0.out); rintro e w' ⟨rfl, ⟨nd, rfl⟩⟩; (try first | exact ⟨rfl, _, World.drewN_drewN _ _ _⟩ | exact ⟨rfl, _, Eq.trans (World.drewN_drewN _ _ _) (congrArg (World.drewN _) (Nat.add_assoc _ _ _))⟩))))
                go_ret
                exact ⟨by first | rfl | (simp; done) | (simp [*]; done) | (exfalso; simp only [beq_iff_eq, decide_eq_true_eq] at *; omega), by repeat (first | exact Drawn0.refl _ | apply Drawn0.step)⟩
            · rw [if_neg c6] at H
              exact absurd H (by simp)
          · rw [if_neg c5] at H
            exact absurd H (by simp)
        · rw [if_neg c4] at H
          have c4b0 : decide (x5_1 < (l0.length : Int)) = false := decide_eq_false c4
          clear c4
          obtain rfl := Option.some.inj H
          go_wp2
          repeat (go_quiet (fail); try go_wp2)
          go_ret
          exact ⟨by first | rfl | (simp; done) | (simp [*]; done) | (exfalso; simp only [beq_iff_eq, decide_eq_true_eq] at *; omega), by repeat (first | exact Drawn0.refl _ | apply Drawn0.step)⟩
  · rw [if_neg c3] at H
    have c3b0 : ((l0.length : Int) == (l1.length : Int)) = false := beq_eq_false_iff_ne.mpr c3
    have c3b1 : ((l0.length : Int) != (l1.length : Int)) = true := bne_iff_ne.mpr c3
    have c3b2 : (l0.length == l1.length) = false := by first | simpa using c3 | (simp at c3 ⊢; omega)
    obtain rfl := Option.some.inj H
    go_enter Tryd.func17, Tryd.ntmps17
    go_wp2
    repeat (go_quiet (fail); try go_wp2)
    go_ret
    exact ⟨by first | rfl | (simp; done) | (simp [*]; done) | (exfalso; simp only [beq_iff_eq, decide_eq_true_eq] at *; omega), by repeat (first | exact Drawn0.refl _ | apply Drawn0.step)⟩

end Go.Proofs.YtkcianklokikoaaDoor.PWli
