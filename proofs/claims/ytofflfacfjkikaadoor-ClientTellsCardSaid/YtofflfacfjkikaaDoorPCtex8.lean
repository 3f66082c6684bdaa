-- Written by a program of this session (gen.py).
import Derived.Test.YtofflfacfjkikaaDoorPCtex0
import Derived.Test.YtofflfacfjkikaaDoorPCtex3
import Derived.Test.YtofflfacfjkikaaDoorPCtex5
import Derived.Test.YtofflfacfjkikaaDoorPCtex7
namespace Go.Proofs.YtofflfacfjkikaaDoor.PCte
open Go.RowKit Go.Proofs.YtofflfacfjkikaaDoorW.PrintWords Go.Proofs.YtofflfacfjkikaaDoorW.PrintLast Go.Proofs.YtofflfacfjkikaaDoorW.PrintMore
open Go.Proofs.YtofflfacfjkikaaDoor.Own
attribute [local go_sem high] unary_not_u32 unary_not_u64 unary_not_u8 string_leq_ string_gtr_
attribute [local go_sem] max2_int min2_int max_two min_two max_three min_three max_four min_four   -- for this text's walks alone
set_option linter.unusedVariables false
set_option linter.unusedSimpArgs false

/-! ### undercroftref05_Decode: function 18 -/
/-- A reader at g over b, at a place, with an error; what it reads lies in w0. -/
structure Rr (w0 W : World) (g : Nat) (A : Option Addr) (c : Nat) (b : List Int) (at_ : Nat) (er : Int) : Prop where
  low : w0.heap.size ≤ g
  below : Below w0.heap.size w0 W
  oct : oct5 b = true
  box : W.heap[g]? = some (.cells #[.slice A b.length c, .int .i64 (at_ : Int), .int .i64 er] 76 (0, 0))
  cap : b.length ≤ c
  reads : Kd.C (Kd.int .u8) w0 A b.length b
  le : at_ ≤ b.length
  small : b.length ≤ 140737488355328
theorem Rr.moved {w0 W W' : World} {g : Nat} {A : Option Addr} {c : Nat} {b : List Int} {at_ : Nat} {er : Int} (h : Rr w0 W g A c b at_ er) (hb : Below W.heap.size W W') : Rr w0 W' g A c b at_ er :=
  ⟨h.low, below_step h.below hb, h.oct, (hb.block g (blk_lt h.box)).trans h.box, h.cap, h.reads, h.le, h.small⟩
theorem Rr.moved2 {w0 W W' : World} {g d : Nat} {A : Option Addr} {c : Nat} {b : List Int} {at_ : Nat} {er : Int} (h : Rr w0 W g A c b at_ er) (hb : Below d W W') (hg : g < d) : Rr w0 W' g A c b at_ er :=
  ⟨h.low, h.below.trans (Below.mono hb (by have := h.low; omega)), h.oct, (hb.block g hg).trans h.box, h.cap, h.reads, h.le, h.small⟩
theorem Rr.drewN {w0 W : World} {g : Nat} {A : Option Addr} {c : Nat} {b : List Int} {at_ : Nat} {er : Int} (h : Rr w0 W g A c b at_ er) (n : Nat) : Rr w0 (W.drewN n) g A c b at_ er := h.moved (pw_below_drewN (Below.refl _ _) n)
theorem Rr.setAt {w0 W : World} {g : Nat} {A : Option Addr} {c : Nat} {b : List Int} {at_ : Nat} {er : Int} (h : Rr w0 W g A c b at_ er) (k : Nat) (hk : k ≤ b.length) : Rr w0 (W.setCell ⟨g, 1, none⟩ (.int .i64 (k : Int))) g A c b k er := ⟨h.low, Below.setCell (p := ⟨g, 1, none⟩) h.below h.low _, h.oct, blk_put h.box 1 _ rfl, h.cap, h.reads, hk, h.small⟩
theorem Rr.setEr {w0 W : World} {g : Nat} {A : Option Addr} {c : Nat} {b : List Int} {at_ : Nat} {er : Int} (h : Rr w0 W g A c b at_ er) (k : Int) : Rr w0 (W.setCell ⟨g, 2, none⟩ (.int .i64 k)) g A c b at_ k := ⟨h.low, Below.setCell (p := ⟨g, 2, none⟩) h.below h.low _, h.oct, blk_put h.box 2 _ rfl, h.cap, h.reads, h.le, h.small⟩
set_option maxHeartbeats 8000000 in
set_option maxRecDepth 100000 in
theorem rtake_err (w0 W : World) (g n : Nat) (A : Option Addr) (c : Nat) (b : List Int) (at_ : Nat) (er : Int) (hs : Rr w0 W g A c b at_ er) (he : ¬ er = 0) :
    Calls Tryd.prog 36 #[.pointer (some ⟨g, 0, none⟩), .int .i64 (n : Int)] W fun e w' => e = .returned (.slice none 0 0) ∧ Rr w0 w' g A c b at_ er ∧ Kept W w' (fun k => k = g) := by
  have HS := Aside0.mk hs
  have hc2 : W.cell? ⟨g, 2, none⟩ = some (.int .i64 er) := (blk_cell hs.box 2).trans rfl
  have hb1 : (er != 0) = true := bne_iff_ne.2 he
  have hb2 : (er == 0) = false := beq_eq_false_iff_ne.2 he
  have hb3 : (er = 0) = False := eq_false he
  have HK := Aside0.mk (Kept.refl W (fun k => k = g))
  clear hs he
  go_enter Tryd.func36, Tryd.ntmps36
  go_wp2
  go_ret
  exact ⟨rfl, HS.out, HK.out⟩
set_option maxHeartbeats 8000000 in
set_option maxRecDepth 100000 in
theorem rtake_short (w0 W : World) (g n : Nat) (A : Option Addr) (c : Nat) (b : List Int) (at_ : Nat) (hs : Rr w0 W g A c b at_ 0) (hn : b.length - at_ < n) :
    Calls Tryd.prog 36 #[.pointer (some ⟨g, 0, none⟩), .int .i64 (n : Int)] W fun e w' => e = .returned (.slice none 0 0) ∧ Rr w0 w' g A c b at_ 8 ∧ Kept W w' (fun k => k = g) := by
  have HS := Aside0.mk hs
  have hc0 : W.cell? ⟨g, 0, none⟩ = some (.slice A b.length c) := (blk_cell hs.box 0).trans rfl
  have hc1 : W.cell? ⟨g, 1, none⟩ = some (.int .i64 (at_ : Int)) := (blk_cell hs.box 1).trans rfl
  have hc2 : W.cell? ⟨g, 2, none⟩ = some (.int .i64 0) := (blk_cell hs.box 2).trans rfl
  have hf2 := blk_frozen hs.box 2
  have hw : wrap64 ((b.length : Int) - (at_ : Int)) = ((b.length - at_ : Nat) : Int) := by have h1 := hs.le; have h2 := hs.small; unfold wrap64; omega
  obtain ⟨L, hL⟩ : ∃ L : Nat, L = b.length - at_ := ⟨_, rfl⟩
  rw [← hL] at hw hn
  have hd : decide ((L : Int) < (n : Int)) = true := decide_eq_true (by omega)
  have hp : ((L : Int) < (n : Int)) = True := eq_true (by omega)
  have hp2 : (L < n) = True := eq_true hn
  have HB := Aside0.mk hs.box
  have HK := Aside0.mk (Kept.refl W (fun k => k = g))
  clear hs hn hL
  go_enter Tryd.func36, Tryd.ntmps36
  go_wp2_with fail
  repeat (go_quiet (fail))
  go_wp2
  go_ret
  exact ⟨rfl, (HS.out.drewN _).setEr 8, (HK.out.drewN _).setCell (p := ⟨g, 2, none⟩) (.inl rfl) _⟩
set_option maxHeartbeats 8000000 in
set_option maxRecDepth 100000 in
theorem rtake_good (w0 W : World) (g n : Nat) (A : Option Addr) (c : Nat) (b : List Int) (at_ : Nat) (hs : Rr w0 W g A c b at_ 0) (hn : ¬ b.length - at_ < n) :
    Calls Tryd.prog 36 #[.pointer (some ⟨g, 0, none⟩), .int .i64 (n : Int)] W fun e w' => ∃ A1 c1, e = .returned (.slice A1 n c1) ∧ n ≤ c1 ∧ Kd.C (Kd.int .u8) w0 A1 n ((b.drop at_).take n) ∧ Rr w0 w' g A c b (at_ + n) 0 ∧ Kept W w' (fun k => k = g) := by
  have HS := Aside0.mk hs
  have hc0 : W.cell? ⟨g, 0, none⟩ = some (.slice A b.length c) := (blk_cell hs.box 0).trans rfl
  have hc1 : W.cell? ⟨g, 1, none⟩ = some (.int .i64 (at_ : Int)) := (blk_cell hs.box 1).trans rfl
  have hc2 : W.cell? ⟨g, 2, none⟩ = some (.int .i64 0) := (blk_cell hs.box 2).trans rfl
  have hf1 := blk_frozen hs.box 1
  have h1 := hs.le
  have h2 := hs.small
  have h3 := hs.cap
  have hw : wrap64 ((b.length : Int) - (at_ : Int)) = ((b.length - at_ : Nat) : Int) := by unfold wrap64; omega
  have hw2 : wrap64 ((at_ : Int) + (n : Int)) = ((at_ + n : Nat) : Int) := by unfold wrap64; omega
  have hw3 : wrap64 (((at_ + n : Nat) : Int) - (n : Int)) = (at_ : Int) := by unfold wrap64; omega
  have HK := Aside0.mk (Kept.refl W (fun k => k = g))
  obtain ⟨i0, hi0, hz0, hs0, _⟩ := info_parts info5
  have hlen : ((b.drop at_).take n).length = n := by rw [List.length_take, List.length_drop]; omega
  have hC1 := Kd.C_drop hs.reads h1 h3
  have hC2 := Kd.C_take (m := n) hC1 (by rw [List.length_drop]; omega)
  rw [hlen] at hC2
  have hC2 : Kd.C (Kd.int .u8) w0 (if c = at_ then A else A.map (·.add (at_ * 1))) n ((b.drop at_).take n) := hC2
  have hcut : ∀ W : World, (Instr.slice 22 (.slice A b.length c) (some (.int .i64 (at_ : Int))) (some (.int .i64 ((at_ + n : Nat) : Int))) none).run Tryd.prog W = .ok (.slice (if c = at_ then A else A.map (·.add (at_ * 1))) n (c - at_)) W := fun W => by
    have h_ := cut_mid (P := Tryd.prog) 22 5 .i64 .i64 Tryd.underlying22 hi0 1 hs0 A b.length c (at_ : Int) ((at_ + n : Nat) : Int) (by omega) (by omega) (by omega) h3 W
    rw [Int.toNat_natCast, Int.toNat_natCast, show at_ + n - at_ = n by omega] at h_
    exact h_
  generalize (if c = at_ then A else A.map (·.add (at_ * 1))) = A1 at hcut hC2
  have hle : n ≤ c - at_ := by omega
  obtain ⟨L, hL⟩ : ∃ L : Nat, L = b.length - at_ := ⟨_, rfl⟩
  rw [← hL] at hw hn
  have hd : decide ((L : Int) < (n : Int)) = false := decide_eq_false (by omega)
  have hp : ((L : Int) < (n : Int)) = False := eq_false (by omega)
  have hp2 : (L < n) = False := eq_false hn
  obtain ⟨M, hM⟩ : ∃ M : Nat, M = at_ + n := ⟨_, rfl⟩
  rw [← hM] at hw2 hw3 hcut ⊢
  have HML := Aside0.mk (show M ≤ b.length by omega)
  have HB := Aside0.mk hs.box
  have HC := Aside0.mk hC2
  have HLE := Aside0.mk hle
  clear hs hn hL hM hC1 hC2 hle hlen h1 h2 h3 hi0 hz0 hs0
  go_enter Tryd.func36, Tryd.ntmps36
  go_wp2_with fail
  repeat (go_quiet (fail))
  go_wp2_with fail
  repeat (go_quiet (fail))
  go_wp2
  go_ret
  exact ⟨A1, c - at_, rfl, HLE.out, HC.out, ((HS.out.drewN _).setAt M HML.out).drewN _, ((HK.out.drewN _).setCell (p := ⟨g, 1, none⟩) (.inl rfl) _).drewN _⟩
/-- What a reader takes. -/
def rtakeI (b : List Int) (n at_ : Nat) (er : Int) : List Int × Nat × Int := if er = 0 then (if b.length - at_ < n then ([], at_, 8) else ((b.drop at_).take n, at_ + n, 0)) else ([], at_, er)
theorem rtake_calls (w0 W : World) (g n : Nat) (A : Option Addr) (c : Nat) (b : List Int) (at_ : Nat) (er : Int) (hs : Rr w0 W g A c b at_ er) (t : List Int) (at2 : Nat) (er2 : Int) (h : rtakeI b n at_ er = (t, at2, er2)) :
    Calls Tryd.prog 36 #[.pointer (some ⟨g, 0, none⟩), .int .i64 (n : Int)] W fun e w' => ∃ A1 c1, e = .returned (.slice A1 t.length c1) ∧ t.length ≤ c1 ∧ Kd.C (Kd.int .u8) w0 A1 t.length t ∧ Rr w0 w' g A c b at2 er2 ∧ Kept W w' (fun k => k = g) := by
  unfold rtakeI at h
  by_cases he : er = 0
  · rw [if_pos he] at h
    subst he
    by_cases hn : b.length - at_ < n
    · rw [if_pos hn] at h
      cases h
      refine (rtake_short w0 W g n A c b at_ hs hn).mono ?_
      rintro e w' ⟨rfl, h1, h2⟩
      exact ⟨none, 0, rfl, Nat.le_refl _, ⟨rfl, by decide, fun h => absurd h (by decide)⟩, h1, h2⟩
    · rw [if_neg hn] at h
      cases h
      have hlen : ((b.drop at_).take n).length = n := by rw [List.length_take, List.length_drop]; omega
      refine (rtake_good w0 W g n A c b at_ hs hn).mono ?_
      rintro e w' ⟨A1, c1, rfl, h0, h3, h1, h2⟩
      rw [hlen]
      exact ⟨A1, c1, rfl, h0, h3, h1, h2⟩
  · rw [if_neg he] at h
    cases h
    refine (rtake_err w0 W g n A c b at_ er hs he).mono ?_
    rintro e w' ⟨rfl, h1, h2⟩
    exact ⟨none, 0, rfl, Nat.le_refl _, ⟨rfl, by decide, fun h => absurd h (by decide)⟩, h1, h2⟩
/-- An octet of a reader. -/
def roctI (b : List Int) (at_ : Nat) (er : Int) : Int × Nat × Int := if er = 0 then (match b[at_]? with | none => (0, at_, 8) | some x => (x, at_ + 1, 0)) else (0, at_, er)
set_option maxHeartbeats 8000000 in
set_option maxRecDepth 100000 in
theorem roct_bad (w0 W : World) (g : Nat) (A : Option Addr) (c : Nat) (b : List Int) (at_ : Nat) (er : Int) (hs : Rr w0 W g A c b at_ er) (at2 : Nat) (er2 : Int) (h : rtakeI b 1 at_ er = ([], at2, er2)) (h0 : ¬ er2 = 0) :
    Calls Tryd.prog 32 #[.pointer (some ⟨g, 0, none⟩)] W fun e w' => e = .returned (.int .i64 0) ∧ Rr w0 w' g A c b at2 er2 ∧ Kept W w' (fun k => k = g) := by
  have HS := Aside0.mk hs
  have H := Aside0.mk h
  have hb1 : (er2 != 0) = true := bne_iff_ne.2 h0
  have hb2 : (er2 == 0) = false := beq_eq_false_iff_ne.2 h0
  have hb3 : (er2 = 0) = False := eq_false h0
  clear hs h h0
  go_enter Tryd.func32, Tryd.ntmps32
  go_wp2_with (first
    | (go_at_call 36; go_loud (refine (rtake_calls w0 _ g 1 A c b at_ er HS.out [] at2 er2 H.out).mono ?_; rintro e w1 ⟨A1, c1, rfl, h0, h3, h1, h2⟩; have hc2 : w1.cell? ⟨g, 2, none⟩ = some (.int .i64 er2) := (blk_cell h1.box 2).trans rfl; have H1 := Aside0.mk h1; have H2 := Aside0.mk h2; clear h0 h1 h2 h3; simp only [List.length_nil])))
  go_ret
  exact ⟨rfl, H1.out, H2.out⟩
set_option maxHeartbeats 8000000 in
set_option maxRecDepth 100000 in
theorem roct_good (w0 W : World) (g : Nat) (A : Option Addr) (c : Nat) (b : List Int) (at_ : Nat) (x : Int) (hs : Rr w0 W g A c b at_ 0) (hx : b[at_]? = some x) :
    Calls Tryd.prog 32 #[.pointer (some ⟨g, 0, none⟩)] W fun e w' => e = .returned (.int .i64 x) ∧ Rr w0 w' g A c b (at_ + 1) 0 ∧ Kept W w' (fun k => k = g) := by
  obtain ⟨hlt, hxe⟩ := List.getElem?_eq_some_iff.1 hx
  have e1 : (b.drop at_).take 1 = [x] := by rw [List.drop_eq_getElem_cons hlt, hxe]; rfl
  have ht : rtakeI b 1 at_ 0 = ([x], at_ + 1, 0) := by unfold rtakeI; rw [if_pos rfl, if_neg (by omega), e1]
  have hb := oct5_at hs.oct (List.mem_of_getElem? hx)
  have hw : wrap64 x = x := by unfold wrap64; omega
  have hq : Calls Tryd.prog 36 #[.pointer (some ⟨g, 0, none⟩), .int .i64 ((1 : Nat) : Int)] W fun e w' => ∃ ad c1, e = .returned (.slice (some ad) 1 c1) ∧ w'.cell? ad = some (.int .u8 x) ∧ Rr w0 w' g A c b (at_ + 1) 0 ∧ Kept W w' (fun k => k = g) := by
    refine (rtake_calls w0 W g 1 A c b at_ 0 hs [x] (at_ + 1) 0 ht).mono ?_
    rintro e w1 ⟨A1, c1, rfl, h0, h3, h1, h2⟩
    have h3 : Kd.C (Kd.int .u8) w0 A1 1 [x] := h3
    obtain ⟨ad, rfl, hy⟩ := Kd.at_int h3 0 (by decide) (by decide)
    have hx2 : w0.cell? ad = some (.int .u8 x) := by
      have h3 : w0.cell? (ad.add 0) = some (.int .u8 x) := hy
      rwa [show ad.add 0 = ad from rfl] at h3
    exact ⟨ad, c1, rfl, pw_cell_below h1.below hx2, h1, h2⟩
  have HQ := Aside0.mk hq
  clear hs hx e1 ht hb hlt hxe hq
  go_enter Tryd.func32, Tryd.ntmps32
  go_wp2_with (first
    | (go_at_call 36; go_loud (refine Calls.mono HQ.out ?_; rintro e w1 ⟨ad, c1, rfl, hcx, h1, h2⟩; have hc2 : w1.cell? ⟨g, 2, none⟩ = some (.int .i64 0) := (blk_cell h1.box 2).trans rfl; have H1 := Aside0.mk h1; have H2 := Aside0.mk h2; clear h1 h2)))
  go_ret
  exact ⟨by rw [hw]; rfl, H1.out, H2.out⟩
theorem roct_calls (w0 W : World) (g : Nat) (A : Option Addr) (c : Nat) (b : List Int) (at_ : Nat) (er : Int) (hs : Rr w0 W g A c b at_ er) (x : Int) (at2 : Nat) (er2 : Int) (h : roctI b at_ er = (x, at2, er2)) :
    Calls Tryd.prog 32 #[.pointer (some ⟨g, 0, none⟩)] W fun e w' => e = .returned (.int .i64 x) ∧ Rr w0 w' g A c b at2 er2 ∧ Kept W w' (fun k => k = g) := by
  unfold roctI at h
  by_cases he : er = 0
  · rw [if_pos he] at h
    subst he
    cases hq : b[at_]? with
    | none =>
      rw [hq] at h
      cases h
      have := List.getElem?_eq_none_iff.1 hq
      exact roct_bad w0 W g A c b at_ 0 hs at_ 8 (by unfold rtakeI; rw [if_pos rfl, if_pos (by omega)]) (by decide)
    | some y =>
      rw [hq] at h
      cases h
      exact roct_good w0 W g A c b at_ x hs hq
  · rw [if_neg he] at h
    cases h
    exact roct_bad w0 W g A c b at_ er hs at_ er (by unfold rtakeI; rw [if_neg he]) he
/-- A reader whose rest is l. -/
def Rs (w0 W : World) (g : Nat) (A : Option Addr) (c : Nat) (b l : List Int) (er : Int) : Prop := ∃ at_, Rr w0 W g A c b at_ er ∧ b.drop at_ = l
theorem Rs.box {w0 W : World} {g : Nat} {A : Option Addr} {c : Nat} {b l : List Int} {er : Int} (h : Rs w0 W g A c b l er) : ∃ at_ : Nat, W.heap[g]? = some (.cells #[.slice A b.length c, .int .i64 (at_ : Int), .int .i64 er] 76 (0, 0)) ∧ at_ ≤ b.length ∧ b.drop at_ = l := by
  obtain ⟨a, h1, h2⟩ := h
  exact ⟨a, h1.box, h1.le, h2⟩
theorem Rs.err {w0 W : World} {g : Nat} {A : Option Addr} {c : Nat} {b l : List Int} {er : Int} (h : Rs w0 W g A c b l er) : W.cell? ⟨g, 2, none⟩ = some (.int .i64 er) := by
  obtain ⟨a, h1, _⟩ := h
  exact (blk_cell h1.box 2).trans rfl
theorem Rs.fr {w0 W : World} {g : Nat} {A : Option Addr} {c : Nat} {b l : List Int} {er : Int} (h : Rs w0 W g A c b l er) : W.frozen? ⟨g, 2, none⟩ = false := by
  obtain ⟨a, h1, _⟩ := h
  exact blk_frozen h1.box 2
theorem Rs.low {w0 W : World} {g : Nat} {A : Option Addr} {c : Nat} {b l : List Int} {er : Int} (h : Rs w0 W g A c b l er) : w0.heap.size ≤ g := by
  obtain ⟨a, h1, _⟩ := h
  exact h1.low
theorem Rs.below {w0 W : World} {g : Nat} {A : Option Addr} {c : Nat} {b l : List Int} {er : Int} (h : Rs w0 W g A c b l er) : Below w0.heap.size w0 W := by
  obtain ⟨a, h1, _⟩ := h
  exact h1.below
theorem Rs.octs {w0 W : World} {g : Nat} {A : Option Addr} {c : Nat} {b l : List Int} {er : Int} (h : Rs w0 W g A c b l er) : oct5 l = true := by
  obtain ⟨a, h1, h2⟩ := h
  exact oct5_sub h1.oct (fun x hx => List.mem_of_mem_drop (by rw [h2]; exact hx))
theorem Rs.setEr {w0 W : World} {g : Nat} {A : Option Addr} {c : Nat} {b l : List Int} {er : Int} (h : Rs w0 W g A c b l er) (k : Int) : Rs w0 (W.setCell ⟨g, 2, none⟩ (.int .i64 k)) g A c b l k := by
  obtain ⟨a, h1, h2⟩ := h
  exact ⟨a, h1.setEr k, h2⟩
theorem Rs.moved {w0 W W' : World} {g : Nat} {A : Option Addr} {c : Nat} {b l : List Int} {er : Int} (h : Rs w0 W g A c b l er) (hb : Below W.heap.size W W') : Rs w0 W' g A c b l er := by
  obtain ⟨a, h1, h2⟩ := h
  exact ⟨a, h1.moved hb, h2⟩
theorem Rs.moved2 {w0 W W' : World} {g d : Nat} {A : Option Addr} {c : Nat} {b l : List Int} {er : Int} (h : Rs w0 W g A c b l er) (hb : Below d W W') (hg : g < d) : Rs w0 W' g A c b l er := by
  obtain ⟨a, h1, h2⟩ := h
  exact ⟨a, h1.moved2 hb hg, h2⟩
/-- A cell of a block that is not the reader's. -/
theorem Rs.set {w0 W : World} {g : Nat} {A : Option Addr} {c : Nat} {b l : List Int} {er : Int} (h : Rs w0 W g A c b l er) {p : Addr} (hp : g ≠ p.block) (hw : w0.heap.size ≤ p.block) (v : Value) : Rs w0 (W.setCell p v) g A c b l er := by
  obtain ⟨a, h1, h2⟩ := h
  exact ⟨a, ⟨h1.low, Below.setCell h1.below hw v, h1.oct, (Below.heap_setCell _ _ _ _ hp).trans h1.box, h1.cap, h1.reads, h1.le, h1.small⟩, h2⟩
def octR (l : List Int) (er : Int) : Int × List Int × Int := if er = 0 then (match l with | [] => (0, [], 8) | x :: r => (x, r, 0)) else (0, l, er)
theorem roctR_calls (w0 W : World) (g : Nat) (A : Option Addr) (c : Nat) (b l : List Int) (er : Int) (hs : Rs w0 W g A c b l er) (x : Int) (l2 : List Int) (er2 : Int) (h : octR l er = (x, l2, er2)) :
    Calls Tryd.prog 32 #[.pointer (some ⟨g, 0, none⟩)] W fun e w' => e = .returned (.int .i64 x) ∧ Rs w0 w' g A c b l2 er2 ∧ Kept W w' (fun k => k = g) := by
  obtain ⟨at_, hr, hl⟩ := hs
  have : ∃ at2, roctI b at_ er = (x, at2, er2) ∧ b.drop at2 = l2 := by
    unfold octR at h
    unfold roctI
    by_cases he : er = 0
    · rw [if_pos he] at h ⊢
      cases hq : b[at_]? with
      | none =>
        have h1 := List.getElem?_eq_none_iff.1 hq
        rw [List.drop_eq_nil_of_le h1] at hl
        subst hl
        cases h
        exact ⟨at_, rfl, List.drop_eq_nil_of_le h1⟩
      | some y =>
        obtain ⟨hlt, hy⟩ := List.getElem?_eq_some_iff.1 hq
        rw [List.drop_eq_getElem_cons hlt, hy] at hl
        subst hl
        cases h
        exact ⟨at_ + 1, rfl, rfl⟩
    · rw [if_neg he] at h ⊢
      cases h
      exact ⟨at_, rfl, hl⟩
  obtain ⟨at2, h2, h3⟩ := this
  refine (roct_calls w0 W g A c b at_ er hr x at2 er2 h2).mono ?_
  rintro e w' ⟨rfl, k1, k2⟩
  exact ⟨rfl, ⟨at2, k1, h3⟩, k2⟩
def takeR (n : Nat) (l : List Int) (er : Int) : List Int × List Int × Int := if er = 0 then (if l.length < n then ([], l, 8) else (l.take n, l.drop n, 0)) else ([], l, er)
theorem rtakeR_calls (w0 W : World) (g n : Nat) (A : Option Addr) (c : Nat) (b l : List Int) (er : Int) (hs : Rs w0 W g A c b l er) (t l2 : List Int) (er2 : Int) (h : takeR n l er = (t, l2, er2)) :
    Calls Tryd.prog 36 #[.pointer (some ⟨g, 0, none⟩), .int .i64 (n : Int)] W fun e w' => ∃ A1 c1, e = .returned (.slice A1 t.length c1) ∧ t.length ≤ c1 ∧ Kd.C (Kd.int .u8) w0 A1 t.length t ∧ Rs w0 w' g A c b l2 er2 ∧ Kept W w' (fun k => k = g) := by
  obtain ⟨at_, hr, hl⟩ := hs
  have hlen : l.length = b.length - at_ := by rw [← hl, List.length_drop]
  have : ∃ at2, rtakeI b n at_ er = (t, at2, er2) ∧ b.drop at2 = l2 := by
    unfold takeR at h
    unfold rtakeI
    by_cases he : er = 0
    · rw [if_pos he] at h ⊢
      by_cases hn : l.length < n
      · rw [if_pos hn] at h
        rw [if_pos (by omega)]
        cases h
        exact ⟨at_, rfl, hl⟩
      · rw [if_neg hn] at h
        rw [if_neg (by omega)]
        cases h
        exact ⟨at_ + n, by rw [hl], by rw [← hl, List.drop_drop]⟩
    · rw [if_neg he] at h ⊢
      cases h
      exact ⟨at_, rfl, hl⟩
  obtain ⟨at2, h2, h3⟩ := this
  refine (rtake_calls w0 W g n A c b at_ er hr t at2 er2 h2).mono ?_
  rintro e w' ⟨A1, c1, rfl, k0, k3, k1, k2⟩
  exact ⟨A1, c1, rfl, k0, k3, ⟨at2, k1, h3⟩, k2⟩
set_option maxHeartbeats 8000000 in
set_option maxRecDepth 100000 in
theorem rcount_calls (w0 W : World) (g : Nat) (most : Int) (A : Option Addr) (c : Nat) (b l : List Int) (er : Int) (hs : Rs w0 W g A c b l er) (x : Int) (l2 : List Int) (er2 : Int) (h : octR l er = (x, l2, er2)) :
    Calls Tryd.prog 33 #[.pointer (some ⟨g, 0, none⟩), .int .i64 most] W fun e w' => e = .returned (.int .i64 x) ∧ Rs w0 w' g A c b l2 (if er2 = 0 ∧ most < x then 3 else er2) ∧ Kept W w' (fun k => k = g) := by
  have HS := Aside0.mk hs
  have H := Aside0.mk h
  clear hs h
  by_cases he : er2 = 0
  · subst he
    by_cases hm : most < x
    · rw [if_pos ⟨rfl, hm⟩]
      have hp : (most < x) = True := eq_true hm
      have hd : decide (most < x) = true := decide_eq_true hm
      clear hm
      go_enter Tryd.func33, Tryd.ntmps33
      go_wp2_with (first
        | (go_at_call 32; go_loud (refine (roctR_calls w0 _ g A c b l er HS.out x l2 0 H.out).mono ?_; rintro e w1 ⟨rfl, h1, h2⟩; have hc2 := h1.err; have hf2 := h1.fr; have H1 := Aside0.mk h1; have H2 := Aside0.mk h2; clear h1 h2)))
      go_ret
      exact ⟨rfl, H1.out.setEr 3, H2.out.setCell (p := ⟨g, 2, none⟩) (.inl rfl) _⟩
    · rw [if_neg (fun h => hm h.2)]
      have hp : (most < x) = False := eq_false hm
      have hd : decide (most < x) = false := decide_eq_false hm
      clear hm
      go_enter Tryd.func33, Tryd.ntmps33
      go_wp2_with (first
        | (go_at_call 32; go_loud (refine (roctR_calls w0 _ g A c b l er HS.out x l2 0 H.out).mono ?_; rintro e w1 ⟨rfl, h1, h2⟩; have hc2 := h1.err; have hf2 := h1.fr; have H1 := Aside0.mk h1; have H2 := Aside0.mk h2; clear h1 h2)))
      go_ret
      exact ⟨rfl, H1.out, H2.out⟩
  · rw [if_neg (fun h => he h.1)]
    have hb1 : (er2 == 0) = false := beq_eq_false_iff_ne.2 he
    have hb3 : (er2 = 0) = False := eq_false he
    clear he
    go_enter Tryd.func33, Tryd.ntmps33
    go_wp2_with (first
      | (go_at_call 32; go_loud (refine (roctR_calls w0 _ g A c b l er HS.out x l2 er2 H.out).mono ?_; rintro e w1 ⟨rfl, h1, h2⟩; have hc2 := h1.err; have hf2 := h1.fr; have H1 := Aside0.mk h1; have H2 := Aside0.mk h2; clear h1 h2)))
    go_ret
    exact ⟨rfl, H1.out, H2.out⟩
def codeO : Option Int → Int
  | none => 0
  | some c => c
set_option maxHeartbeats 8000000 in
set_option maxRecDepth 100000 in
theorem rgroups_calls (w0 W : World) (g : Nat) (A : Option Addr) (c : Nat) (b l : List Int) (hs : Rs w0 W g A c b l 0) : Calls Tryd.prog 34 #[.pointer (some ⟨g, 0, none⟩)] W fun e w' => e = .returned (.int .u64 (groupsI 0 0 l).1.1) ∧ Rs w0 w' g A c b (groupsI 0 0 l).2 (codeO (groupsI 0 0 l).1.2) ∧ Kept W w' (fun k => k = g) := by
  obtain ⟨RR, hRR⟩ : ∃ RR, RR = groupsI 0 0 l := ⟨_, rfl⟩
  rw [← hRR]
  have HRR := Aside0.mk hRR.symm
  have HSC := Aside0.mk hs
  have HK0 := Aside0.mk (Kept.refl W (fun k => k = g))
  clear hs hRR
  go_enter Tryd.func34, Tryd.ntmps34
  go_wp2
  go_loopw [3, 4] (fun v3 v4 w1 => ∃ (i : Nat) (n : Int) (l1 : List Int), i ≤ 9 ∧ v4 = .int .i64 (i : Int) ∧ v3 = .int .u64 n ∧ Aside0 (groupsI i n l1 = RR) ∧ Aside0 (Rs w0 w1 g A c b l1 0) ∧ Aside0 (Kept W w1 (fun k => k = g))) (fun _ v4 _ => 100 - (intOf v4).toNat)
  case atStart => exact ⟨0, 0, l, by omega, rfl, rfl, HRR, HSC, HK0⟩
  case round =>
    obtain ⟨i, n, l1, hi, rfl, rfl, HR, HSC1, HK1⟩ := hrel
    have HOC := Aside0.mk HSC1.out.octs
    clear HSC HRR HK0
    have HIM := Aside0.mk (show min (7 * i) 64 = 7 * i by omega)
    have hnn : (0 ≤ 7 * (i : Int)) = True := eq_true (by omega)
    have hnn2 : (0 ≤ (i : Int)) = True := eq_true (by omega)
    have hi1 : ((i : Int) < 10) = True := eq_true (by omega)
    have hi2 : (i < 10) = True := eq_true (by omega)
    have hi3 : decide ((i : Int) < 10) = true := decide_eq_true (by omega)
    have HW7 := Aside0.mk (show wrap64 (7 * (i : Int)) = 7 * (i : Int) by unfold wrap64; omega)
    cases l1 with
    | nil =>
      have hR : RR = ((0, some 8), []) := HR.out.symm
      subst hR
      go_wp2_with (first
        | (go_at_call 32; go_loud (refine (roctR_calls w0 _ g A c b [] 0 HSC1.out 0 [] 8 rfl).mono ?_; rintro e w1 ⟨rfl, h1, h2⟩; have hc2 := h1.err; have H1 := Aside0.mk h1; have H2 := Aside0.mk (HK1.out.then_ h2 (fun _ h_ => .inl h_)); clear h1 h2)))
      go_ret
      exact ⟨rfl, H1.out, H2.out⟩
    | cons x r =>
      have hx := oct5_at HOC.out (List.mem_cons_self (a := x) (l := r))
      by_cases hE : (i = 9 ∧ 1 < x) ∨ (0 < i ∧ x = 0)
      · have hR : RR = ((0, some 4), r) := HR.out.symm.trans (groupsI_err hE)
        subst hR
        have hp : ((((i : Int) = 9) = True ∧ (i = 9) = True ∧ ((i : Int) == 9) = true) ∧ (1 < x) = True) ∨ ((((i : Int) = 9) = True ∧ (i = 9) = True ∧ ((i : Int) == 9) = true) ∧ (1 < x) = False ∧ ((x = 0) = True ∧ (x == 0) = true) ∧ (0 < (i : Int)) = True ∧ (0 < i) = True) ∨ ((((i : Int) = 9) = False ∧ (i = 9) = False ∧ ((i : Int) == 9) = false) ∧ ((x = 0) = True ∧ (x == 0) = true) ∧ (0 < (i : Int)) = True ∧ (0 < i) = True) := by
          by_cases h9 : i = 9
          · by_cases h1 : 1 < x
            · exact .inl ⟨⟨eq_true (by omega), eq_true h9, beq_iff_eq.2 (by omega)⟩, eq_true h1⟩
            · exact .inr (.inl ⟨⟨eq_true (by omega), eq_true h9, beq_iff_eq.2 (by omega)⟩, eq_false h1, ⟨eq_true (by omega), beq_iff_eq.2 (by omega)⟩, eq_true (by omega), eq_true (by omega)⟩)
          · exact .inr (.inr ⟨⟨eq_false (by omega), eq_false h9, beq_eq_false_iff_ne.2 (by omega)⟩, ⟨eq_true (by omega), beq_iff_eq.2 (by omega)⟩, eq_true (by omega), eq_true (by omega)⟩)
        clear hE hx HR hi
        rcases hp with ⟨⟨hp1, hq1, hb1⟩, hp2⟩ | ⟨⟨hp1, hq1, hb1⟩, hp2, ⟨hp5, hcb⟩, hp3, hp4⟩ | ⟨⟨hp1, hq1, hb1⟩, ⟨hp5, hcb⟩, hp3, hp4⟩
        all_goals
          go_wp2_with (first
            | (go_at_call 32; go_loud (refine (roctR_calls w0 _ g A c b (x :: r) 0 HSC1.out x r 0 rfl).mono ?_; rintro e w1 ⟨rfl, h1, h2⟩; have hc2 := h1.err; have hf2 := h1.fr; have H1 := Aside0.mk h1; have H2 := Aside0.mk (HK1.out.then_ h2 (fun _ h_ => .inl h_)); clear h1 h2)))
          go_ret
          exact ⟨rfl, H1.out.setEr 4, H2.out.setCell (p := ⟨g, 2, none⟩) (.inl rfl) _⟩
      · have hp : ((((i : Int) = 9) = True ∧ (i = 9) = True ∧ ((i : Int) == 9) = true) ∧ (1 < x) = False ∧ ((x = 0) = False ∧ (x == 0) = false)) ∨ ((((i : Int) = 9) = False ∧ (i = 9) = False ∧ ((i : Int) == 9) = false) ∧ ((x = 0) = False ∧ (x == 0) = false)) ∨ ((((i : Int) = 9) = False ∧ (i = 9) = False ∧ ((i : Int) == 9) = false) ∧ ((x = 0) = True ∧ (x == 0) = true) ∧ (0 < (i : Int)) = False ∧ (0 < i) = False) := by
          by_cases h9 : i = 9
          · exact .inl ⟨⟨eq_true (by omega), eq_true h9, beq_iff_eq.2 (by omega)⟩, eq_false (by omega), ⟨eq_false (by omega), beq_eq_false_iff_ne.2 (by omega)⟩⟩
          · by_cases h0 : x = 0
            · exact .inr (.inr ⟨⟨eq_false (by omega), eq_false h9, beq_eq_false_iff_ne.2 (by omega)⟩, ⟨eq_true h0, beq_iff_eq.2 h0⟩, eq_false (by omega), eq_false (by omega)⟩)
            · exact .inr (.inl ⟨⟨eq_false (by omega), eq_false h9, beq_eq_false_iff_ne.2 (by omega)⟩, ⟨eq_false h0, beq_eq_false_iff_ne.2 h0⟩⟩)
        by_cases h8 : x < 128
        · have hR : RR = ((gstep n x i, none), r) := HR.out.symm.trans (groupsI_end hE h8)
          subst hR
          have hp8 : (x < 128) = True := eq_true h8
          clear hE hx HR hi h8
          rcases hp with ⟨⟨hp1, hq1, hb1⟩, hp2, ⟨hp5, hcb⟩⟩ | ⟨⟨hp1, hq1, hb1⟩, ⟨hp5, hcb⟩⟩ | ⟨⟨hp1, hq1, hb1⟩, ⟨hp5, hcb⟩, hp3, hp4⟩
          all_goals
            have hw7 := HW7.out
            go_wp2_with (first
              | (go_at_call 32; go_loud (refine (roctR_calls w0 _ g A c b (x :: r) 0 HSC1.out x r 0 rfl).mono ?_; rintro e w1 ⟨rfl, h1, h2⟩; have hc2 := h1.err; have hf2 := h1.fr; have H1 := Aside0.mk h1; have H2 := Aside0.mk (HK1.out.then_ h2 (fun _ h_ => .inl h_)); clear h1 h2)))
            go_ret
            exact ⟨by first | rfl | (rw [HIM.out]; rfl), H1.out, H2.out⟩
        · have hR := (groupsI_on hE h8).symm.trans HR.out
          have HR2 := Aside0.mk hR
          have hi9 : i < 9 := by
            by_cases h9 : i = 9
            · omega
            · omega
          have HW := Aside0.mk (nat_next (i := i) (by omega))
          have HI := Aside0.mk hi9
          have hp8 : (x < 128) = False := eq_false h8
          clear hE hx HR hi h8 hi9 hR
          rcases hp with ⟨⟨hp1, hq1, hb1⟩, hp2, ⟨hp5, hcb⟩⟩ | ⟨⟨hp1, hq1, hb1⟩, ⟨hp5, hcb⟩⟩ | ⟨⟨hp1, hq1, hb1⟩, ⟨hp5, hcb⟩, hp3, hp4⟩
          all_goals
            have hw7 := HW7.out
            go_wp2_with (first
              | (go_at_call 32; go_loud (refine (roctR_calls w0 _ g A c b (x :: r) 0 HSC1.out x r 0 rfl).mono ?_; rintro e w1 ⟨rfl, h1, h2⟩; have hc2 := h1.err; have hf2 := h1.fr; have H1 := Aside0.mk h1; have H2 := Aside0.mk (HK1.out.then_ h2 (fun _ h_ => .inl h_)); clear h1 h2)))
            have hi9 := HI.out
            refine ⟨⟨i + 1, gstep n x i, r, by omega, by rw [HW.out], by first | rfl | (rw [HIM.out]; rfl), HR2, H1, H2⟩, by rw [HW.out]; simp only [intOf]; omega⟩
theorem rgroups_at {w0 W : World} {g : Nat} {A : Option Addr} {c : Nat} {b l r : List Int} {m : Int} {er : Option Int} (hs : Rs w0 W g A c b l 0) (h : groupsI 0 0 l = ((m, er), r)) : Calls Tryd.prog 34 #[.pointer (some ⟨g, 0, none⟩)] W fun e w' => e = .returned (.int .u64 m) ∧ Rs w0 w' g A c b r (codeO er) ∧ Kept W w' (fun k => k = g) := by
  have := rgroups_calls w0 W g A c b l hs
  rwa [h] at this
theorem groupsI_code : ∀ (l : List Int) (i : Nat) (n m c : Int) (r : List Int), groupsI i n l = ((m, some c), r) → c ≠ 0 := by
  intro l
  induction l with
  | nil =>
    intro i n m c r h
    rw [groupsI] at h
    cases h
    decide
  | cons x l ih =>
    intro i n m c r h
    rw [groupsI] at h
    split at h
    · cases h
      decide
    · split at h
      · cases h
      · exact ih _ _ _ _ _ h
def recT (k : Int) (n : List Int) (y : (List (List Int) × Option Int) × List Int) : RecI := match y.1.2 with
  | some e => .bad e
  | none => if 0 < y.2.length then .bad 23 else .good k n y.1.1
def recN (k : Int) (x : (List Int × Option Int) × List Int) : RecI := match x.1.2 with
  | some e => .bad e
  | none => recT k x.1.1 (textsI x.2)
theorem cnt_is {l l2 : List Int} {x e2 : Int} (h : octR l 0 = (x, l2, e2)) : ∃ eo, countI 64 l = ((x, eo), l2) ∧ (if e2 = 0 ∧ 64 < x then 3 else e2) = codeO eo ∧ ∀ c, eo = some c → c ≠ 0 := by
  cases l with
  | nil =>
    cases h
    refine ⟨some 8, ?_, rfl, fun c hc => by cases hc; decide⟩
    unfold countI
    rw [if_neg (by simp [octetI])]
    rfl
  | cons y r =>
    cases h
    by_cases h64 : 64 < x
    · refine ⟨some 3, ?_, by rw [if_pos ⟨rfl, h64⟩]; rfl, fun c hc => by cases hc; decide⟩
      unfold countI
      rw [if_pos ⟨rfl, h64⟩]
      rfl
    · refine ⟨none, ?_, by rw [if_neg (fun h => h64 h.2)]; rfl, fun c hc => by cases hc⟩
      unfold countI
      rw [if_neg (fun h => h64 h.2)]
      rfl
theorem st_nums {RR : RecI} {kd : Int} {l1 l2 : List Int} {e1 e2 x : Int} (hoct : oct5 l1 = true) (h : (e1 = 0 ∧ recN kd (numsI l1) = RR) ∨ (e1 ≠ 0 ∧ RR = .bad e1)) (ho : octR l1 e1 = (x, l2, e2)) :
    ∃ (N : Nat) (e3 : Int), x = (N : Int) ∧ (if e2 = 0 ∧ 64 < x then 3 else e2) = e3 ∧ ((e3 = 0 ∧ N ≤ 64 ∧ recN kd (numsLoop N [] l2) = RR) ∨ (e3 ≠ 0 ∧ RR = .bad e3)) := by
  rcases h with ⟨rfl, h⟩ | ⟨he, h⟩
  · obtain ⟨eo, hc, hcode, hne⟩ := cnt_is ho
    have h0 := countI_nonneg hoct hc
    refine ⟨x.toNat, codeO eo, by omega, hcode, ?_⟩
    have hn : numsI l1 = numsGo eo x.toNat [] l2 := by unfold numsI; rw [hc]
    rw [hn] at h
    cases eo with
    | none =>
      have := countI_le hc
      unfold numsGo at h
      rw [if_pos rfl] at h
      exact .inl ⟨rfl, by omega, h⟩
    | some c =>
      unfold numsGo at h
      rw [if_neg (by simp)] at h
      exact .inr ⟨hne c rfl, h.symm⟩
  · unfold octR at ho
    rw [if_neg he] at ho
    cases ho
    exact ⟨0, e1, rfl, if_neg (fun h => he h.1), .inr ⟨he, h⟩⟩
theorem st_texts {RR : RecI} {kd : Int} {n l1 l2 : List Int} {e1 e2 x : Int} (hoct : oct5 l1 = true) (h : (e1 = 0 ∧ recT kd n (textsI l1) = RR) ∨ (e1 ≠ 0 ∧ RR = .bad e1)) (ho : octR l1 e1 = (x, l2, e2)) :
    ∃ (N : Nat) (e3 : Int), x = (N : Int) ∧ (if e2 = 0 ∧ 64 < x then 3 else e2) = e3 ∧ ((e3 = 0 ∧ N ≤ 64 ∧ recT kd n (textsLoop N [] l2) = RR) ∨ (e3 ≠ 0 ∧ RR = .bad e3)) := by
  rcases h with ⟨rfl, h⟩ | ⟨he, h⟩
  · obtain ⟨eo, hc, hcode, hne⟩ := cnt_is ho
    have h0 := countI_nonneg hoct hc
    refine ⟨x.toNat, codeO eo, by omega, hcode, ?_⟩
    have hn : textsI l1 = textsGo eo x.toNat [] l2 := by unfold textsI; rw [hc]
    rw [hn] at h
    cases eo with
    | none =>
      have := countI_le hc
      unfold textsGo at h
      rw [if_pos rfl] at h
      exact .inl ⟨rfl, by omega, h⟩
    | some c =>
      unfold textsGo at h
      rw [if_neg (by simp)] at h
      exact .inr ⟨hne c rfl, h.symm⟩
  · unfold octR at ho
    rw [if_neg he] at ho
    cases ho
    exact ⟨0, e1, rfl, if_neg (fun h => he h.1), .inr ⟨he, h⟩⟩
theorem nums_step {RR : RecI} {kd m : Int} {d : Nat} {acc l r : List Int} {eo : Option Int} (hg : groupsI 0 0 l = ((m, eo), r)) (h : recN kd (numsLoop (d + 1) acc l) = RR) :
    (codeO eo = 0 ∧ recN kd (numsLoop d (acc ++ [unz m]) r) = RR) ∨ (codeO eo ≠ 0 ∧ RR = .bad (codeO eo)) := by
  rw [numsLoop, hg] at h
  cases eo with
  | none =>
    rw [if_pos rfl] at h
    exact .inl ⟨rfl, h⟩
  | some c =>
    rw [if_neg (by simp)] at h
    exact .inr ⟨groupsI_code _ _ _ _ _ _ hg, h.symm⟩
theorem texts_step {RR : RecI} {kd m e e3 : Int} {d K : Nat} {n l r1 t r2 : List Int} {acc : List (List Int)} {eo : Option Int} (hg : groupsI 0 0 l = ((m, eo), r1)) (hK : 0 ≤ m → m ≤ 4096 → (K : Int) = m)
    (he : (if codeO eo = 0 ∧ 4096 < m then 5 else codeO eo) = e) (ht : takeR K r1 e = (t, r2, e3)) (h : recT kd n (textsLoop (d + 1) acc l) = RR) :
    (e3 = 0 ∧ recT kd n (textsLoop d (acc ++ [t]) r2) = RR) ∨ (e3 ≠ 0 ∧ RR = .bad e3) := by
  have hm0 := groupsI_nonneg l 0 0
  rw [hg] at hm0
  have hm0 : 0 ≤ m := hm0
  have htx : textI l = if eo = none then (if 4096 < m then (([], some 5), r1) else takeI m.toNat r1) else (([], eo), r1) := by unfold textI; rw [hg]
  rw [textsLoop, htx] at h
  unfold takeR at ht
  cases eo with
  | none =>
    rw [if_pos rfl] at h
    by_cases hbig : 4096 < m
    · rw [if_pos hbig] at h
      rw [if_pos ⟨rfl, hbig⟩] at he
      subst he
      rw [if_neg (by decide)] at ht
      cases ht
      rw [if_neg (by simp)] at h
      exact .inr ⟨by decide, h.symm⟩
    · rw [if_neg hbig] at h
      rw [if_neg (fun h => hbig h.2)] at he
      have he : (0 : Int) = e := he
      subst he
      rw [if_pos rfl] at ht
      have hk : m.toNat = K := by have := hK hm0 (by omega); omega
      rw [hk] at h
      unfold takeI at h
      by_cases hn : r1.length < K
      · rw [if_pos hn] at h ht
        cases ht
        rw [if_neg (by simp)] at h
        exact .inr ⟨by decide, h.symm⟩
      · rw [if_neg hn] at h ht
        cases ht
        rw [if_pos rfl] at h
        exact .inl ⟨rfl, h⟩
  | some c =>
    have hc := groupsI_code _ _ _ _ _ _ hg
    rw [if_neg (fun h => hc h.1)] at he
    have he : c = e := he
    subst he
    rw [if_neg hc] at ht
    cases ht
    rw [if_neg (by simp), if_neg (by simp)] at h
    exact .inr ⟨hc, h.symm⟩
theorem rx0_i64 (x : Int) (h0 : -9223372036854775808 ≤ x) (h1 : x ≤ 9223372036854775807) : Go.bits .xor .i64 x 0 = x := by
  show IntKind.i64.wrap ((BitVec.ofInt 64 x ^^^ BitVec.ofInt 64 0).toNat : Int) = x
  have e : BitVec.ofInt 64 0 = 0#64 := rfl
  rw [e, BitVec.xor_zero, BitVec.toNat_ofInt, IntKind.wrap_i64]
  omega
theorem unz_bit (m : Int) : (bits BinOp.and IntKind.u64 m 1 = 1 ∧ unz m = bits BinOp.xor IntKind.i64 (-1) (wrap64 (m / 2))) ∨ (bits BinOp.and IntKind.u64 m 1 = 0 ∧ unz m = wrap64 (m / 2)) := by
  have hb : bits BinOp.and IntKind.u64 m 1 = (((BitVec.ofInt 64 m).toNat % 2 : Nat) : Int) := by
    show IntKind.u64.wrap ((BitVec.ofInt 64 m &&& BitVec.ofInt 64 1).toNat : Int) = _
    rw [BitVec.toNat_and, show (BitVec.ofInt 64 1).toNat = 1 from rfl, Nat.and_one_is_mod, IntKind.wrap_u64]
    omega
  have hw : -9223372036854775808 ≤ wrap64 (m / 2) ∧ wrap64 (m / 2) ≤ 9223372036854775807 := by unfold wrap64; omega
  unfold unz
  by_cases h : (BitVec.ofInt 64 m).toNat % 2 = 1
  · rw [h] at hb
    refine .inl ⟨hb, ?_⟩
    rw [hb, show wrap64 (-(wrap64 ((1 : Nat) : Int))) = -1 by unfold wrap64; omega]
    show IntKind.i64.wrap ((BitVec.ofInt 64 (wrap64 (m / 2)) ^^^ BitVec.ofInt 64 (-1)).toNat : Int) = IntKind.i64.wrap ((BitVec.ofInt 64 (-1) ^^^ BitVec.ofInt 64 (wrap64 (m / 2))).toNat : Int)
    rw [BitVec.xor_comm]
  · rw [show (BitVec.ofInt 64 m).toNat % 2 = 0 by omega] at hb
    refine .inr ⟨hb, ?_⟩
    rw [hb, show wrap64 (-(wrap64 ((0 : Nat) : Int))) = 0 by unfold wrap64; omega]
    exact rx0_i64 _ hw.1 hw.2
theorem and8191 (m : Int) : ∃ K : Nat, bits BinOp.and IntKind.u64 m 8191 = (K : Int) ∧ K ≤ 8191 ∧ (0 ≤ m → m ≤ 4096 → (K : Int) = m) := by
  refine ⟨(BitVec.ofInt 64 m &&& BitVec.ofInt 64 8191).toNat, ?_, ?_, ?_⟩
  · show IntKind.u64.wrap ((BitVec.ofInt 64 m &&& BitVec.ofInt 64 8191).toNat : Int) = _
    have := (BitVec.ofInt 64 m &&& BitVec.ofInt 64 8191).isLt
    rw [IntKind.wrap_u64]
    omega
  · rw [BitVec.toNat_and]
    exact Nat.le_trans Nat.and_le_right (by decide)
  · intro h0 h1
    obtain ⟨p, rfl⟩ := Int.eq_ofNat_of_zero_le h0
    rw [BitVec.toNat_and, BitVec.ofInt_natCast, BitVec.toNat_ofNat, Nat.mod_eq_of_lt (by omega), show (BitVec.ofInt 64 8191).toNat = 2 ^ 13 - 1 from rfl, Nat.and_two_pow_sub_one_eq_mod]
    rw [Nat.mod_eq_of_lt (by omega)]
def recO : RecI → Int × List Int × List (List Int) × Int
  | .good k n t => (k, n, t, 0)
  | .bad c => (0, [], [], c)
def dec_T22 : Bool × List (List Nat × List Nat) := (true, [([], []), ([0], [0]), ([], []), ([], []), ([3], [3]), ([4], [4]), ([2, 5], [2, 5]), ([6, 6], [6]), ([7], [7]), ([1, 8, 7], [1, 8]), ([0, 1, 2, 3, 4, 5, 6, 7, 8, 9], []), ([10, 9, 9, 0, 1, 2, 3, 4, 5, 6, 7, 8, 9], [9, 10])])
def dec_B22 : List Nat := [0, 1, 0, 0, 8, 24, 60, 124, 252, 511, 1023, 2047]
theorem dec_tab22 : rtab .any (opsOf Tryd.f18 22) = dec_T22 := by kernel_rfl
theorem dec_bits22 : waitsOk dec_T22.2 dec_B22 = true := by kernel_rfl
set_option maxHeartbeats 8000000 in
set_option maxRecDepth 100000 in
theorem rdec_main (k : Nat) (A0 : Option Addr) (c0 : Nat) (l q : List Int) (w : World) (hr0 : Kd.C (Kd.int .u8) w A0 l.length l) (hc0 : l.length ≤ c0) (h1 : undercroftref02_Open.f k l = some (q, 0)) (ho : oct5 q = true) (hm : q.length ≤ 140737488355328) (RR : RecI) (hR : recI q = RR) :
    Calls Tryd.prog 18 #[.slice A0 l.length c0] w fun e w' => ∃ v1_ v2_ : Value, e = .returned (.tuple #[.agg #[.int .i64 (recO RR).1, v1_, v2_], .int .i64 (recO RR).2.2.2]) ∧ Kd.R (Kd.int .i64) 3 w' w.heap.size (fun _ => True) v1_ (recO RR).2.1 ∧ Kd.S (Kd.slice 5 (Kd.int .u8)) 22 w' w.heap.size (fun _ => True) v2_ (recO RR).2.2.1 ∧ Below w.heap.size w w' := by
  obtain ⟨kd, l1, e1, hk1⟩ : ∃ kd l1 e1, octR q 0 = (kd, l1, e1) := ⟨_, _, _, rfl⟩
  have hst : (e1 = 0 ∧ recN kd (numsI l1) = RR) ∨ (e1 ≠ 0 ∧ RR = .bad e1) := by
    cases q with
    | nil => cases hk1; exact .inr ⟨by decide, hR.symm⟩
    | cons x r => cases hk1; exact .inl ⟨rfl, hR⟩
  have hol1 : oct5 l1 = true := by
    cases q with
    | nil => cases hk1; rfl
    | cons x r => cases hk1; exact oct5_sub ho (fun y hy => List.mem_cons_of_mem _ hy)
  obtain ⟨x2, l2, e2, hk2⟩ : ∃ x2 l2 e2, octR l1 e1 = (x2, l2, e2) := ⟨_, _, _, rfl⟩
  obtain ⟨N, e3, rfl, he3, hJ0⟩ := st_nums hol1 hst hk2
  have HK1 := Aside0.mk hk1
  have HK2 := Aside0.mk hk2
  have HE3 := Aside0.mk he3
  have HJ0 := Aside0.mk hJ0
  have HR0 := Aside0.mk hr0
  have HC0 := Aside0.mk hc0
  have A1 := Aside0.mk h1
  have HO := Aside0.mk ho
  have HM := Aside0.mk hm
  clear hr0 hc0 h1 ho hm hR hst hol1 hk1 hk2 he3 hJ0
  go_enter Tryd.func18, Tryd.ntmps18
  go_wp2_with (first
    | ((with_reducible refine gate_dst (N := 2) rfl ?_); (try (refine gate_guard (by rfl) ?_; dsimp only)); refine box_event ?hg (N := 2) ?hd (cs := #[.int .i64 0, .slice none 0 0, .slice none 0 0]) (t := 47) ?hr ?_; (case hd => rfl); (case hg => rfl); (case hr => first | (go_simp; done) | (go_simp; rfl)); intro gb hg w1 hbox hb; go_loud (have HG0 := Aside0.mk hg; have HB1 := Aside0.mk hb; have HBK := Aside0.mk hbox; have HR1 := Aside0.mk (Kd.C_below HR0.out hb); clear hb hg hbox))
    | (go_at_call 31; go_loud (refine (undercroftref02_Open.calls k A0 c0 l q 0 _ HR1.out HC0.out A1.out).mono ?_; rintro e w2 ⟨v2, rfl, ho2, hb2⟩; obtain ⟨D2, c2, rfl⟩ := Kd.R_slice ho2; have HQ2 := Aside0.mk (Kd.R_reads' ho2); have HBB2 := Aside0.mk ((hb2.block _ (blk_lt HBK.out)).trans HBK.out); have HB2 := Aside0.mk (below_step HB1.out hb2); have HGB2 := Aside0.mk (blk_lt HBB2.out); clear ho2 hb2))
    | ((with_reducible refine gate_dst (N := 26) rfl ?_); (try (refine gate_guard (by rfl) ?_; dsimp only)); refine box_event ?hg (N := 26) ?hd (cs := #[.slice D2 q.length c2, .int .i64 0, .int .i64 0]) (t := 76) ?hr ?_; (case hd => rfl); (case hg => rfl); (case hr => first | (go_simp; done) | (go_simp; rfl)); intro gs hg w3 hbox hb; go_loud (have HGS := Aside0.mk hg; have HSC := Aside0.mk (show Rs w2 w3 gs D2 c2 q q 0 from ⟨0, Rr.mk (w0 := w2) (W := w3) (g := gs) (A := D2) (c := c2) (b := q) (at_ := 0) (er := 0) (Nat.le_of_eq hg.symm) hb HO.out hbox HQ2.out.2.1 HQ2.out.2.2 (Nat.zero_le _) HM.out, rfl⟩); have HBB3 := Aside0.mk ((hb.block _ (blk_lt HBB2.out)).trans HBB2.out); have HZ3 := Aside0.mk (blk_lt hbox); clear hb hg hbox))
    | (go_at_call 32; go_loud (refine (roctR_calls w2 _ gs D2 c2 q q 0 HSC.out kd l1 e1 HK1.out).mono ?_; rintro e w4 ⟨rfl, h1, h2⟩; have HS4 := Aside0.mk h1; have HBB4 := Aside0.mk (blk_kept HBB3.out h2 (fun h_ => by have h1_ := HGS.out; have h2_ := HGB2.out; omega)); have HZ4 := Aside0.mk (Nat.lt_of_lt_of_le HZ3.out h2.1); clear h1 h2))
    | ((with_reducible refine gate_dst (N := 7) rfl ?_); (try (refine gate_guard (by rfl) ?_; dsimp only)); refine box_event ?hg (N := 7) ?hd (cs := #[.int .i64 0, .slice none 0 0, .slice none 0 0]) (t := 47) ?hr ?_; (case hd => rfl); (case hg => rfl); (case hr => first | (go_simp; done) | (go_simp; rfl)); intro go_ hg w5 hbox hb; go_loud (have HGO := Aside0.mk hg; have HBO5 := Aside0.mk hbox; have HB45 := Aside0.mk hb; have HS5 := Aside0.mk (HS4.out.moved hb); have HBB5 := Aside0.mk ((hb.block _ (blk_lt HBB4.out)).trans HBB4.out); have hcz0 : w5.cell? ⟨go_, 0, none⟩ = some (.int .i64 0) := (blk_cell HBO5.out 0).trans rfl; have hcz1 : w5.cell? ⟨go_, 1, none⟩ = some (.slice none 0 0) := (blk_cell HBO5.out 1).trans rfl; have hcz2 : w5.cell? ⟨go_, 2, none⟩ = some (.slice none 0 0) := (blk_cell HBO5.out 2).trans rfl; have hfz0 := blk_frozen HBO5.out 0; have hfz1 := blk_frozen HBO5.out 1; have hfz2 := blk_frozen HBO5.out 2; clear hb hg hbox))
    | ((with_reducible refine gate_store (t := 47) (p := 7) rfl ?_); refine store_event (t := 47) (p := 7) (v := ?vo_w21) (w1 := (((w5.setCell ⟨go_, 0, none⟩ (.int .i64 kd)).setCell ⟨go_, 1, none⟩ (.slice none 0 0)).setCell ⟨go_, 2, none⟩ (.slice none 0 0))) ?hg ?ho ?hn ?hr ?_; (case ho => rfl); (case hg => rfl); (case hn => rfl); (case hr => first | (go_simp; done) | (go_simp; rfl)); intro w6 hw; go_loud (have hb46 : Below w4.heap.size w4 w6 := (by rw [hw]; exact ((HB45.out.setCell (p := ⟨go_, 0, none⟩) (Nat.le_of_eq HGO.out.symm) _).setCell (p := ⟨go_, 1, none⟩) (Nat.le_of_eq HGO.out.symm) _).setCell (p := ⟨go_, 2, none⟩) (Nat.le_of_eq HGO.out.symm) _); have HBO6 : Aside0 (w6.heap[go_]? = some (.cells #[.int .i64 kd, .slice none 0 0, .slice none 0 0] 47 (0, 0))) := ⟨by rw [hw]; exact blk_put (blk_put (blk_put HBO5.out 0 _ rfl) 1 _ rfl) 2 _ rfl⟩; have HBB6 := Aside0.mk ((hb46.block _ (blk_lt HBB4.out)).trans HBB4.out); have HS6 := Aside0.mk (HS4.out.moved hb46); clear hw hcz0 hcz1 hcz2 hfz0 hfz1 hfz2 hb46))
    | (go_at_call 33; go_loud (refine (rcount_calls w2 _ gs 64 D2 c2 q l1 e1 HS6.out (N : Int) l2 e2 HK2.out).mono ?_; rw [HE3.out]; rintro e w7 ⟨rfl, h1, h2⟩; have HS7 := Aside0.mk h1; have HBB7 := Aside0.mk (blk_kept HBB6.out h2 (fun h_ => by have h1_ := HGS.out; have h2_ := HGB2.out; omega)); have HBO7 := Aside0.mk (blk_kept HBO6.out h2 (fun h_ => by have h1_ := HGO.out; have h2_ := HZ4.out; omega)); clear h1 h2)))
  have HN1 : Aside0 (gb ≠ gs ∧ gb ≠ go_ ∧ gs ≠ go_) := ⟨by have h1_ := HGS.out; have h2_ := HGB2.out; have h3_ := HGO.out; have h4_ := HZ4.out; omega, by have h1_ := HGS.out; have h2_ := HGB2.out; have h3_ := HGO.out; have h4_ := HZ4.out; omega, by have h3_ := HGO.out; have h4_ := HZ4.out; omega⟩
  have HLT7 : Aside0 (gb < w7.heap.size ∧ go_ < w7.heap.size ∧ gs < w7.heap.size) := ⟨blk_lt HBB7.out, blk_lt HBO7.out, by obtain ⟨a_, h1_, _⟩ := HS7.out.box; exact blk_lt h1_⟩
  have HLOW : Aside0 (w2.heap.size ≤ go_) := ⟨by have h1_ := HGO.out; have h2_ := HS4.out.below.size; omega⟩
  clear HS6 HS5 HS4 HBO6 HBO5 HBB6 HBB5 HBB4 HBB3 HBB2 HBK HSC HK1 HK2 HE3 HR0 HR1 A1 HC0 HO HM HQ2 HGS HGO HZ3 HZ4 HB45
  go_loopw [9] (fun v9 W1 => ∃ (i : Nat) (er : Int) (acc l : List Int) (D : Option Addr) (c : Nat), v9 = .int .i64 (i : Int) ∧ Aside0 ((er = 0 ∧ i ≤ N ∧ N ≤ 64 ∧ recN kd (numsLoop (N - i) acc l) = RR) ∨ (er ≠ 0 ∧ RR = .bad er)) ∧ Aside0 (acc.length = i ∧ i ≤ 64) ∧ Aside0 (W1.heap[go_]? = some (.cells #[.int .i64 kd, .slice D acc.length c, .slice none 0 0] 47 (0, 0))) ∧ Aside0 (Kd.R (Kd.int .i64) 3 W1 w7.heap.size (fun k => w7.heap.size ≤ k) (.slice D acc.length c) acc) ∧ Aside0 (Rs w2 W1 gs D2 c2 q l er) ∧ Aside0 (Kept w7 W1 (fun k => k = gs ∨ k = go_))) (fun v9 _ => 100 - (intOf v9).toNat)
  case atStart => exact ⟨0, e3, [], l2, none, 0, rfl, ⟨by rcases HJ0.out with ⟨h1, h2, h3⟩ | h; exact .inl ⟨h1, Nat.zero_le _, h2, h3⟩; exact .inr h⟩, ⟨rfl, by omega⟩, HBO7, ⟨Kd.R_nil _ _ _ _ _⟩, HS7, ⟨Kept.refl _ _⟩⟩
  case round =>
    obtain ⟨i, er, acc, l, D, c, rfl, HJ, HA, HBO, HRW, HS, HK⟩ := hrel
    clear HJ0 HS7 HBO7
    have HBB := Aside0.mk (blk_kept HBB7.out HK.out (fun h_ => by have h1_ := HN1.out; omega))
    have hce := HS.out.err
    by_cases hgo : i < N ∧ er = 0
    · obtain ⟨hlt, rfl⟩ := hgo
      have hp : ((i : Int) < (N : Int)) = True := eq_true (by omega)
      have hp2 : (i < N) = True := eq_true hlt
      have hd : decide ((i : Int) < (N : Int)) = true := decide_eq_true (by omega)
      obtain ⟨⟨⟨m, eo⟩, l3⟩, hg⟩ : ∃ x, x = groupsI 0 0 l := ⟨_, rfl⟩
      have hJ : N ≤ 64 ∧ recN kd (numsLoop (N - (i + 1) + 1) acc l) = RR := by
        rcases HJ.out with ⟨_, _, h3, h4⟩ | h
        · exact ⟨h3, by rw [show N - (i + 1) + 1 = N - i by omega]; exact h4⟩
        · exact absurd rfl h.1
      have hJ2 := nums_step hg.symm hJ.2
      have HG := Aside0.mk hg.symm
      have HW := Aside0.mk (nat_next (i := i) (by omega))
      have HLT := Aside0.mk (show i < N ∧ N ≤ 64 from ⟨hlt, hJ.1⟩)
      have HLEN := Aside0.mk (show (acc.length + 1) * 8 ≤ 140737488355328 by have := HA.out; omega)
      have hu := unz_bit m
      clear HJ hJ hg hlt
      rcases hu with ⟨hu1, hu2⟩ | ⟨hu1, hu2⟩
      · rw [hu2] at hJ2
        have HJ2 := Aside0.mk hJ2
        clear hu2 hJ2
        go_wp2_with (first
          | (go_at_call 34; go_loud (refine (rgroups_at HS.out HG.out).mono ?_; rintro e w8 ⟨rfl, h1, h2⟩; have HS8 := Aside0.mk h1; have HRW8 := Aside0.mk (Kd.R_kept HRW.out h2 (fun k_ h1_ h2_ => by have h3_ := HLT7.out; omega)); have HBO8 := Aside0.mk (blk_kept HBO.out h2 (fun h_ => by have h3_ := HN1.out; omega)); have hco := (blk_cell HBO8.out 1).trans rfl; have hfo := blk_frozen HBO8.out 1; have HK8 := Aside0.mk (HK.out.then_ h2 (fun _ h_ => .inl (.inl h_))); clear h1 h2 hce))
          | ((with_reducible refine gate_dst (N := 58) rfl ?_); at_builtin; go_loud (refine Kd.R_append (Kd.int .i64) (w0 := w8) w7.heap.size rfl (.tmp 55) (.tmp 57) 42 3 (.int .i64 0) 8 rfl Tryd.underlying42 info3 rfl (by decide) (by omega) (.slice D acc.length c) acc (bits BinOp.xor IntKind.i64 (-1) (wrap64 (m / 2))) [.int .i64 (bits BinOp.xor IntKind.i64 (-1) (wrap64 (m / 2)))] (fun k => w7.heap.size ≤ k) (fun _ => False) rfl (by first | (go_simp; done) | (go_simp; rfl)) rfl (fun _ hk => hk.elim) (fun k hk => Nat.le_trans HK8.out.1 hk) HRW8.out (Below.refl _ _) HK8.out.1 HLEN.out ?_; intro v9 w9 ho hb hg_ hat; obtain ⟨D9, c9, rfl⟩ := Kd.R_slice ho; have HRW9 := Aside0.mk ho; have HBO9 := Aside0.mk ((hb.block _ (HLT7.out.2.1)).trans HBO8.out); have HS9 := Aside0.mk (HS8.out.moved2 hb HLT7.out.2.2); have HK9 := Aside0.mk (show Kept w7 w9 (fun k => k = gs ∨ k = go_) from ⟨Nat.le_trans HK8.out.1 hb.size, fun i_ h1_ h2_ => (hb.block i_ h1_).trans (HK8.out.2 i_ h1_ h2_)⟩); clear ho hb hg_ hat hco hfo; have hco := (blk_cell HBO9.out 1).trans rfl; have hfo := blk_frozen HBO9.out 1)))
        have hl : (acc ++ [bits BinOp.xor IntKind.i64 (-1) (wrap64 (m / 2))]).length = acc.length + 1 := by rw [List.length_append]; rfl
        have hlt := HLT.out
        have hrw := HRW9.out
        rw [hl] at hrw
        refine ⟨⟨i + 1, codeO eo, acc ++ [bits BinOp.xor IntKind.i64 (-1) (wrap64 (m / 2))], l3, D9, c9, by rw [HW.out], ⟨?_⟩, ⟨by rw [hl, HA.out.1], by omega⟩, ⟨?_⟩, ⟨?_⟩, ⟨HS9.out.set HN1.out.2.2 HLOW.out _⟩, ⟨HK9.out.setCell (p := ⟨go_, 1, none⟩) (.inl (.inr rfl)) _⟩⟩, by rw [HW.out]; simp only [intOf]; omega⟩
        · rcases HJ2.out with ⟨h1, h2⟩ | h
          · exact .inl ⟨h1, by omega, by omega, h2⟩
          · exact .inr h
        · rw [hl]
          exact blk_put HBO9.out 1 _ rfl
        · rw [hl]
          exact R_set hrw HLT7.out.2.1
      · rw [hu2] at hJ2
        have HJ2 := Aside0.mk hJ2
        clear hu2 hJ2
        go_wp2_with (first
          | (go_at_call 34; go_loud (refine (rgroups_at HS.out HG.out).mono ?_; rintro e w8 ⟨rfl, h1, h2⟩; have HS8 := Aside0.mk h1; have HRW8 := Aside0.mk (Kd.R_kept HRW.out h2 (fun k_ h1_ h2_ => by have h3_ := HLT7.out; omega)); have HBO8 := Aside0.mk (blk_kept HBO.out h2 (fun h_ => by have h3_ := HN1.out; omega)); have hco := (blk_cell HBO8.out 1).trans rfl; have hfo := blk_frozen HBO8.out 1; have HK8 := Aside0.mk (HK.out.then_ h2 (fun _ h_ => .inl (.inl h_))); clear h1 h2 hce))
          | ((with_reducible refine gate_dst (N := 58) rfl ?_); at_builtin; go_loud (refine Kd.R_append (Kd.int .i64) (w0 := w8) w7.heap.size rfl (.tmp 55) (.tmp 57) 42 3 (.int .i64 0) 8 rfl Tryd.underlying42 info3 rfl (by decide) (by omega) (.slice D acc.length c) acc (wrap64 (m / 2)) [.int .i64 (wrap64 (m / 2))] (fun k => w7.heap.size ≤ k) (fun _ => False) rfl (by first | (go_simp; done) | (go_simp; rfl)) rfl (fun _ hk => hk.elim) (fun k hk => Nat.le_trans HK8.out.1 hk) HRW8.out (Below.refl _ _) HK8.out.1 HLEN.out ?_; intro v9 w9 ho hb hg_ hat; obtain ⟨D9, c9, rfl⟩ := Kd.R_slice ho; have HRW9 := Aside0.mk ho; have HBO9 := Aside0.mk ((hb.block _ (HLT7.out.2.1)).trans HBO8.out); have HS9 := Aside0.mk (HS8.out.moved2 hb HLT7.out.2.2); have HK9 := Aside0.mk (show Kept w7 w9 (fun k => k = gs ∨ k = go_) from ⟨Nat.le_trans HK8.out.1 hb.size, fun i_ h1_ h2_ => (hb.block i_ h1_).trans (HK8.out.2 i_ h1_ h2_)⟩); clear ho hb hg_ hat hco hfo; have hco := (blk_cell HBO9.out 1).trans rfl; have hfo := blk_frozen HBO9.out 1)))
        have hl : (acc ++ [wrap64 (m / 2)]).length = acc.length + 1 := by rw [List.length_append]; rfl
        have hlt := HLT.out
        have hrw := HRW9.out
        rw [hl] at hrw
        refine ⟨⟨i + 1, codeO eo, acc ++ [wrap64 (m / 2)], l3, D9, c9, by rw [HW.out], ⟨?_⟩, ⟨by rw [hl, HA.out.1], by omega⟩, ⟨?_⟩, ⟨?_⟩, ⟨HS9.out.set HN1.out.2.2 HLOW.out _⟩, ⟨HK9.out.setCell (p := ⟨go_, 1, none⟩) (.inl (.inr rfl)) _⟩⟩, by rw [HW.out]; simp only [intOf]; omega⟩
        · rcases HJ2.out with ⟨h1, h2⟩ | h
          · exact .inl ⟨h1, by omega, by omega, h2⟩
          · exact .inr h
        · rw [hl]
          exact blk_put HBO9.out 1 _ rfl
        · rw [hl]
          exact R_set hrw HLT7.out.2.1
    · have hx : (er = 0 ∧ recT kd acc (textsI l) = RR) ∨ (er ≠ 0 ∧ RR = .bad er) := by
        rcases HJ.out with ⟨h1, h2, h3, h4⟩ | h
        · have h5 : ¬ i < N := fun h6 => hgo ⟨h6, h1⟩
          rw [show N - i = 0 by omega] at h4
          exact .inl ⟨h1, h4⟩
        · exact .inr h
      have hol := HS.out.octs
      obtain ⟨x5, l5, e5, hk5⟩ : ∃ x5 l5 e5, octR l er = (x5, l5, e5) := ⟨_, _, _, rfl⟩
      obtain ⟨N2, e6, rfl, he6, hJ6⟩ := st_texts hol hx hk5
      have hcd : ((((i : Int) < (N : Int)) = False ∧ (i < N) = False ∧ decide ((i : Int) < (N : Int)) = false)) ∨ ((((i : Int) < (N : Int)) = True ∧ (i < N) = True ∧ decide ((i : Int) < (N : Int)) = true) ∧ ((er == 0) = false ∧ (er = 0) = False)) := by
        by_cases h : i < N
        · have h2 : ¬ er = 0 := fun h3 => hgo ⟨h, h3⟩
          exact .inr ⟨⟨eq_true (by omega), eq_true h, decide_eq_true (by omega)⟩, beq_eq_false_iff_ne.2 h2, eq_false h2⟩
        · exact .inl ⟨eq_false (by omega), eq_false h, decide_eq_false (by omega)⟩
      have HK5 := Aside0.mk hk5
      have HE6 := Aside0.mk he6
      have HJ6 := Aside0.mk hJ6
      clear hx hol hk5 he6 hJ6 hgo HJ
      rcases hcd with ⟨hp, hp2, hd⟩ | ⟨⟨hp, hp2, hd⟩, hq1, hq2⟩
      all_goals
        go_wp2_with (first
          | (go_at_call 33; go_loud (refine (rcount_calls w2 _ gs 64 D2 c2 q l er HS.out (N2 : Int) l5 e5 HK5.out).mono ?_; rw [HE6.out]; rintro e w10 ⟨rfl, h1, h2⟩; have HS10 := Aside0.mk h1; have HBB10 := Aside0.mk (blk_kept HBB.out h2 (fun h_ => HN1.out.1 h_)); have HBO10 := Aside0.mk (blk_kept HBO.out h2 (fun h_ => HN1.out.2.2 h_.symm)); have HNR := Aside0.mk (Kd.R_bound (Kd.R_kept HRW.out h2 (fun k_ h1_ h2_ => by have h3_ := HLT7.out; omega))); clear h1 h2 hce)))
        have HLT10 : Aside0 (gb < w10.heap.size ∧ go_ < w10.heap.size ∧ gs < w10.heap.size) := ⟨blk_lt HBB10.out, blk_lt HBO10.out, by obtain ⟨a_, h1_, _⟩ := HS10.out.box; exact blk_lt h1_⟩
        clear HS HBO HRW HBB HK HA HK5 HE6
        go_loopw [13] (fun v13 W1 => ∃ (i : Nat) (er : Int) (t : List (List Int)) (l : List Int) (D' : Option Addr) (c' : Nat), v13 = .int .i64 (i : Int) ∧ Aside0 ((er = 0 ∧ i ≤ N2 ∧ N2 ≤ 64 ∧ recT kd acc (textsLoop (N2 - i) t l) = RR) ∨ (er ≠ 0 ∧ RR = .bad er)) ∧ Aside0 (t.length = i ∧ i ≤ 64) ∧ Aside0 (W1.heap[go_]? = some (.cells #[.int .i64 kd, .slice D acc.length c, .slice D' t.length c'] 47 (0, 0))) ∧ Aside0 (Kd.S (Kd.slice 5 (Kd.int .u8)) 22 W1 w10.heap.size (fun k => w10.heap.size ≤ k) (.slice D' t.length c') t) ∧ Aside0 (Rs w2 W1 gs D2 c2 q l er) ∧ Aside0 (Kept w10 W1 (fun k => k = gs ∨ k = go_))) (fun v13 _ => 100 - (intOf v13).toNat)
        case atStart => exact ⟨0, e6, [], l5, none, 0, rfl, ⟨by rcases HJ6.out with ⟨h1, h2, h3⟩ | h; exact .inl ⟨h1, Nat.zero_le _, h2, h3⟩; exact .inr h⟩, ⟨rfl, by omega⟩, HBO10, ⟨Kd.S_nil _ _ _ _ _⟩, HS10, ⟨Kept.refl _ _⟩⟩
        case round =>
          obtain ⟨i, er, t, l, D', c', rfl, HJ, HA, HBO, HTW, HS, HK⟩ := hrel
          clear HJ6 HS10 HBO10
          have HBB := Aside0.mk (blk_kept HBB10.out HK.out (fun h_ => by have h1_ := HN1.out; omega))
          have hce := HS.out.err
          have HLx := Aside0.mk HK.out.1
          by_cases hgo : i < N2 ∧ er = 0
          · obtain ⟨hlt, rfl⟩ := hgo
            have hp : ((i : Int) < (N2 : Int)) = True := eq_true (by omega)
            have hp2 : (i < N2) = True := eq_true hlt
            have hd : decide ((i : Int) < (N2 : Int)) = true := decide_eq_true (by omega)
            obtain ⟨⟨⟨m, eo⟩, l3⟩, hg⟩ : ∃ x, x = groupsI 0 0 l := ⟨_, rfl⟩
            have hJ : N2 ≤ 64 ∧ recT kd acc (textsLoop (N2 - (i + 1) + 1) t l) = RR := by
              rcases HJ.out with ⟨_, _, h3, h4⟩ | h
              · exact ⟨h3, by rw [show N2 - (i + 1) + 1 = N2 - i by omega]; exact h4⟩
              · exact absurd rfl h.1
            obtain ⟨Kn, hK1, hK2, hK3⟩ := and8191 m
            obtain ⟨ex, hex⟩ : ∃ ex, (if codeO eo = 0 ∧ 4096 < m then 5 else codeO eo) = ex := ⟨_, rfl⟩
            obtain ⟨tk, l4, e4, htk⟩ : ∃ tk l4 e4, takeR Kn l3 ex = (tk, l4, e4) := ⟨_, _, _, rfl⟩
            have HJ2 := Aside0.mk (texts_step hg.symm hK3 hex htk hJ.2)
            have HTK := Aside0.mk htk
            have HG := Aside0.mk hg.symm
            have HW := Aside0.mk (nat_next (i := i) (by omega))
            have HLT := Aside0.mk (show i < N2 ∧ N2 ≤ 64 from ⟨hlt, hJ.1⟩)
            have HLEN := Aside0.mk (show (t.length + 1) * 24 ≤ 140737488355328 by have := HA.out; omega)
            have hwK : wrap64 (Kn : Int) = (Kn : Int) := by unfold wrap64; omega
            have HCL := Aside0.mk (show undercroftref02_Copied.f tk = some tk by
              have h1 : tk.length ≤ 8191 := by
                unfold takeR at htk
                split at htk
                · split at htk
                  · cases htk; simp
                  · cases htk; rw [List.length_take]; omega
                · cases htk; simp
              unfold undercroftref02_Copied.f
              rw [if_pos (by simp; omega)]
              rfl)
            have hcs : (codeO eo = 0 ∧ 4096 < m ∧ ex = 5) ∨ (codeO eo = 0 ∧ ¬ 4096 < m ∧ ex = 0) ∨ (codeO eo ≠ 0 ∧ ex = codeO eo) := by
              by_cases h1 : codeO eo = 0
              · by_cases h2 : 4096 < m
                · exact .inl ⟨h1, h2, by rw [← hex, if_pos ⟨h1, h2⟩]⟩
                · exact .inr (.inl ⟨h1, h2, by rw [← hex, if_neg (fun h => h2 h.2), h1]⟩)
              · exact .inr (.inr ⟨h1, by rw [← hex, if_neg (fun h => h1 h.1)]⟩)
            obtain ⟨ec, hec⟩ : ∃ ec, codeO eo = ec := ⟨_, rfl⟩
            rw [hec] at hcs
            have HEC := Aside0.mk hec
            clear HJ hJ hg hlt hK2 hK3 hex htk hec
            have hw3 : ((ec = 0 ∧ 4096 < m ∧ ex = 5) ∨ (ec = 0 ∧ ¬ 4096 < m ∧ ex = 0) ∨ (ec ≠ 0 ∧ ex = ec)) := hcs
            clear hcs
            rcases hw3 with ⟨rfl, hm, rfl⟩ | ⟨rfl, hm, rfl⟩ | ⟨hne, rfl⟩
            all_goals
              first
              | (have hm1 : (4096 < m) = True := eq_true hm; have hm2 : decide (4096 < m) = true := decide_eq_true hm; clear hm)
              | (have hm1 : (4096 < m) = False := eq_false hm; have hm2 : decide (4096 < m) = false := decide_eq_false hm; clear hm)
              | (have hm1 : (ex == 0) = false := beq_eq_false_iff_ne.2 hne; have hm2 : (ex = 0) = False := eq_false hne; clear hne)
              go_wp2_with (first
                | (go_at_call 34; go_loud (refine (rgroups_at HS.out HG.out).mono ?_; rw [HEC.out]; rintro e w11 ⟨rfl, h1, h2⟩; have HS11 := Aside0.mk h1; have HBO11 := Aside0.mk (blk_kept HBO.out h2 (fun h_ => HN1.out.2.2 h_.symm)); have hce1 := h1.err; have hfe1 := h1.fr; have HK11 := Aside0.mk h2; clear h1 h2 hce)))
              first
              | (have h_ : 4096 < m := of_eq_true hm1; have HSx := Aside0.mk (HS11.out.setEr 5); have HBOx := Aside0.mk ((Below.heap_setCell _ ⟨gs, 2, none⟩ (.int .i64 5) _ (fun h_ => HN1.out.2.2 h_.symm)).trans HBO11.out); have HKx := Aside0.mk (HK11.out.setCell (p := ⟨gs, 2, none⟩) (.inl rfl) (.int .i64 5)))
              | (have HSx := HS11; have HBOx := HBO11; have HKx := HK11)
              refine start_ (n := 12) (S := fun w' => w'.cell? ⟨go_, 2, none⟩ = some (.slice D' t.length c')) (ds := [9, 11]) #[false, false, false, false, false, false, false, false, false, false, false, false] (by kernel_rfl) rfl rfl ((blk_cell HBOx.out 2).trans rfl) (fun hHeld => ?_); refine with_tabW dec_tab22 dec_bits22 (fun HT_ HW_ => ?_)
              refine pure_ (i := 0) (N := some 88) (v := ?_) (a' := ?_) #[true, false, false, false, false, false, false, false, false, false, false, false] rfl rfl (any_of HT_.out (by kernel_rfl)) (fun _ _ _ h => h) (Or.inl ⟨by rfl, ?_⟩) ?_ ?_
              rotate_left
              · intro w'
                go_simp
                with_reducible rfl
              rotate_left
              · simp only [Act.put, List.setIfInBounds_toArray, List.set_cons_zero, List.set_cons_succ, i64_w, i32_w]
                rfl
              refine take_ (i := 1) (N := some 89) (v := ?_) (a' := ?_) #[true, true, false, false, false, false, false, false, false, false, false, false] rfl rfl (take_ofW HT_.out HW_.out (by kernel_rfl)) (fun _ _ _ h => h) (Or.inl ⟨by rfl, ?_⟩) hHeld ?_ ?_
              rotate_left
              · rintro w' s0
                go_simp
                with_reducible rfl
              rotate_left
              · simp only [Act.put, List.setIfInBounds_toArray, List.set_cons_zero, List.set_cons_succ, i64_w, i32_w]
                rfl
              refine pure_ (i := 2) (N := some 90) (v := ?_) (a' := ?_) #[true, true, true, false, false, false, false, false, false, false, false, false] rfl rfl (any_of HT_.out (by kernel_rfl)) (fun _ _ _ h => h) (Or.inl ⟨by rfl, ?_⟩) ?_ ?_
              rotate_left
              · intro w'
                go_simp
                with_reducible rfl
              rotate_left
              · simp only [Act.put, List.setIfInBounds_toArray, List.set_cons_zero, List.set_cons_succ, i64_w, i32_w]
                rfl
              refine pure_ (i := 3) (N := some 91) (v := ?_) (a' := ?_) #[true, true, true, true, false, false, false, false, false, false, false, false] rfl rfl (any_of HT_.out (by kernel_rfl)) (fun _ _ _ h => h) (Or.inl ⟨by rfl, ?_⟩) ?_ ?_
              rotate_left
              · intro w'
                go_simp
                with_reducible rfl
              rotate_left
              · simp only [Act.put, List.setIfInBounds_toArray, List.set_cons_zero, List.set_cons_succ, i64_w, i32_w]
                rfl
              refine pure_ (i := 4) (N := some 92) (v := ?_) (a' := ?_) #[true, true, true, true, true, false, false, false, false, false, false, false] rfl rfl (any_of HT_.out (by kernel_rfl)) (fun _ _ _ h => h) (Or.inl ⟨by rfl, ?_⟩) ?_ ?_
              rotate_left
              · intro w'
                go_simp
                with_reducible rfl
              rotate_left
              · simp only [Act.put, List.setIfInBounds_toArray, List.set_cons_zero, List.set_cons_succ, i64_w, i32_w]
                rfl
              refine pure_ (i := 5) (N := some 93) (v := ?_) (a' := ?_) #[true, true, true, true, true, true, false, false, false, false, false, false] rfl rfl (any_of HT_.out (by kernel_rfl)) (fun _ _ _ h => h) (Or.inl ⟨by rfl, ?_⟩) ?_ ?_
              rotate_left
              · intro w'
                go_simp
                with_reducible rfl
              rotate_left
              · simp only [Act.put, List.setIfInBounds_toArray, List.set_cons_zero, List.set_cons_succ, i64_w, i32_w]
                rfl
              refine one_ (i := 6) (N := some 94) #[true, true, true, true, true, true, true, false, false, false, false, false] rfl rfl (one_of HT_.out (by kernel_rfl)) (by decide) (fun K hK => ?_)
              refine goes_ Tryd.func36 (by kernel_rfl) rfl #[.pointer (some ⟨gs, 0, none⟩), .int .i64 (Kn : Int)] (by rfl) rfl rfl (by (try simp only [List.map_toArray, List.map_cons, List.map_nil]); first | done | rfl | (show #[Value.pointer (some ⟨gs, 0, none⟩), Value.int IntKind.i64 (wrap64 (Kn : Int))] = _; rw [hwK]) | (show #[Value.pointer (some ⟨gs, 0, none⟩), Value.int IntKind.i64 (wrap64 (bits BinOp.and IntKind.u64 m 8191))] = _; rw [hK1, hwK])) ?_
              refine (rtakeR_calls w2 _ gs Kn D2 c2 q l3 _ (HSx.out.moved (below_drew1 (Below.refl _ _))) tk l4 e4 HTK.out).mono ?_
              rintro e_ w12 ⟨A12, c12, rfl, hc12, hC12, h1, h2⟩
              refine ⟨_, rfl, ?_⟩
              have HS12 := Aside0.mk h1
              have HC12 := Aside0.mk hC12
              have HCC12 := Aside0.mk hc12
              have HKr := (Kept.of_below (below_drew1 (Below.refl _ _)) (fun k => k = gs)).then_ h2 (fun _ h_ => .inl h_)
              have HBO12 := Aside0.mk (blk_kept HBOx.out HKr (fun h_ => HN1.out.2.2 h_.symm))
              have HKW := Aside0.mk (HKx.out.then_ HKr (fun _ h_ => .inl h_))
              have HLW := Aside0.mk HKW.out.1
              have HLX := Aside0.mk (Nat.le_trans HLx.out HKW.out.1)
              clear h1 h2 hC12 hc12 HKr
              refine hK.out _ _ ((blk_cell HBO12.out 2).trans rfl) (fun hHeld => ?_)
              clear hK K
              refine norm_ (a' := ?_) ?_ ?_
              rotate_left
              · show Act.put _ (some 94) _ = _
                simp only [Act.put, List.setIfInBounds_toArray, List.set_cons_zero, List.set_cons_succ, i64_w, i32_w]
                rfl
              refine one_ (i := 7) (N := some 95) #[true, true, true, true, true, true, true, true, false, false, false, false] rfl rfl (one_of HT_.out (by kernel_rfl)) (by decide) (fun K hK => ?_)
              refine goes_ Tryd.func35 (by kernel_rfl) rfl #[.slice A12 tk.length c12] (by rfl) rfl rfl (by (try simp only [List.map_toArray, List.map_cons, List.map_nil]); first | done | rfl) ?_
              refine (undercroftref02_Copied.calls A12 c12 tk tk _ (Kd.C_below HC12.out HS12.out.below) HCC12.out HCL.out).mono ?_
              rintro e_ w13 ⟨v13, rfl, ho, hb⟩
              refine ⟨_, rfl, ?_⟩
              obtain ⟨A13, c13, rfl⟩ := Kd.R_slice ho
              have HT13 := Aside0.mk ho
              have HB13 := Aside0.mk hb
              have HBO13 := Aside0.mk ((hb.block _ (blk_lt HBO12.out)).trans HBO12.out)
              have HS13 := Aside0.mk (HS12.out.moved hb)
              clear ho hb
              refine hK.out _ _ ((blk_cell HBO13.out 2).trans rfl) (fun hHeld => ?_)
              clear hK K
              refine norm_ (a' := ?_) ?_ ?_
              rotate_left
              · show Act.put _ (some 95) _ = _
                simp only [Act.put, List.setIfInBounds_toArray, List.set_cons_zero, List.set_cons_succ, i64_w, i32_w]
                rfl
              refine one_ (i := 8) (N := some 96) #[true, true, true, true, true, true, true, true, true, false, false, false] rfl rfl (one_of HT_.out (by kernel_rfl)) (by decide) (fun K hK => ?_)
              refine value_ (w1 := ?_) (v := ?_) (by rfl) rfl ?_ ?_
              rotate_left 2
              · go_simp
                constructor
                · rfl
                · rfl
              have HBA := (Below.refl w13.heap.size w13).alloc (Nat.le_refl _) (.cells #[.slice A13 tk.length c13] 22)
              have HBO14 := Aside0.mk ((HBA.block _ (blk_lt HBO13.out)).trans HBO13.out)
              refine hK.out _ _ ((blk_cell HBO14.out 2).trans rfl) (fun hHeld => ?_)
              clear hK K HBA HBO14
              refine norm_ (a' := ?_) ?_ ?_
              rotate_left
              · show Act.put _ (some 96) _ = _
                simp only [Act.put, List.setIfInBounds_toArray, List.set_cons_zero, List.set_cons_succ, i64_w, i32_w]
                rfl
              refine last_ (i := 9) (N := some 97) #[true, true, true, true, true, true, true, true, true, true, false, false] rfl rfl (one_of HT_.out (by kernel_rfl)) (by decide) (fun K hK => ?_)
              refine Kd.S_append_step (Kd.slice 5 (Kd.int .u8)) (w0 := w13) w10.heap.size (by rfl) (.tmp 89) (.tmp 96) 43 22 (.slice none 0 0) 24 rfl Tryd.underlying43 info22 rfl (by decide) (by decide) (.slice D' t.length c') t tk [.slice A13 tk.length c13] (fun k => w10.heap.size ≤ k) (fun k_ => some k_ = (.slice A13 tk.length c13 : Value).ownBlock) rfl rfl ?aP ?aK ?aF ?aO ?aB ?aS ?aL ?_
              (case aP => exact Kd.M_row (Kd.R_tight rfl (Kd.R_lower HT13.out HLX.out)))
              (case aK => exact fun k_ hk_ => ⟨Nat.le_trans HLX.out (Kd.R_base HT13.out k_ hk_.symm), fun e_ => Nat.lt_irrefl _ (Nat.lt_of_lt_of_le (Nat.lt_of_lt_of_le (Kd.S_lt HTW.out k_ e_.symm) HLW.out) (Kd.R_base HT13.out k_ hk_.symm))⟩)
              (case aF => exact fun k hk => Nat.le_trans (Nat.le_trans HLX.out HB13.out.size) hk)
              (case aO => exact Kd.S_mono (Kd.S_below (Kd.S_kept (Kd.S_bound HTW.out) HKW.out (fun k_ h1_ h2_ => by have h3_ := HLT10.out; have h4_ := h1_.1; omega)) HB13.out) (fun k hk => ⟨hk.1, fun h_ => Nat.lt_irrefl _ (Nat.lt_of_lt_of_le (Nat.lt_of_lt_of_le hk.2.2.1 HLW.out) (Kd.R_base HT13.out k h_.symm))⟩))
              (case aB => exact Below.refl _ _)
              (case aS => exact Nat.le_trans HLX.out HB13.out.size)
              (case aL => exact HLEN.out)
              intro v15 w15 ho hb hg hat
              obtain ⟨D15, c15, rfl⟩ := Kd.S_slice ho
              have HT15 := Aside0.mk ho
              have HB15 := Aside0.mk hb
              clear ho hb hg hat
              refine hK.out _ _ ?_
              clear hK K
              refine norm_ (a' := ?_) ?_ ?_
              rotate_left
              · show Act.put _ (some 97) _ = _
                simp only [Act.put, List.setIfInBounds_toArray, List.set_cons_zero, List.set_cons_succ, i64_w, i32_w]
                rfl
              have HBO15 := Aside0.mk ((HB15.out.block _ HLT10.out.2.1).trans HBO13.out)
              have HS15 := Aside0.mk (HS13.out.moved2 HB15.out HLT10.out.2.2)
              have hu1_ := blk_cell HBO15.out 2
              have hu2_ := blk_frozen HBO15.out 2
              refine pure_ (i := 10) (N := some 98) (v := ?_) (a' := ?_) #[true, true, true, true, true, true, true, true, true, true, true, false] rfl rfl (any_of HT_.out (by kernel_rfl)) (fun _ _ _ h => h) (Or.inl ⟨by rfl, ?_⟩) ?_ ?_
              rotate_left
              · intro w'
                go_simp
                with_reducible rfl
              rotate_left
              · simp only [Act.put, List.setIfInBounds_toArray, List.set_cons_zero, List.set_cons_succ, i64_w, i32_w]
                rfl
              refine last_ (i := 11) (N := none) #[true, true, true, true, true, true, true, true, true, true, true, true] rfl rfl (one_of HT_.out (by kernel_rfl)) (by decide) (fun K hK => ?_)
              refine skip_ (w1 := ?_) (by rfl) rfl ?_ ?_
              rotate_left 1
              · go_simp
                rfl
              refine hK.out _ _ ?_
              clear hK K
              refine done_ (done_of HT_.out (by kernel_rfl)) ?_
              go_wp2
              have hl : (t ++ [tk]).length = t.length + 1 := by rw [List.length_append]; rfl
              have hlt := HLT.out
              refine ⟨⟨i + 1, e4, t ++ [tk], l4, D15, c15, by rw [HW.out], ⟨?_⟩, ⟨by rw [hl, HA.out.1], by omega⟩, ⟨?_⟩, ⟨?_⟩, ⟨HS15.out.set HN1.out.2.2 HLOW.out _⟩, ⟨?_⟩⟩, by rw [HW.out]; simp only [intOf]; omega⟩
              · rcases HJ2.out with ⟨h1, h2⟩ | h
                · exact .inl ⟨h1, by omega, by omega, h2⟩
                · exact .inr h
              · rw [hl]
                exact blk_put HBO15.out 2 _ rfl
              · have ht15 := HT15.out
                rw [hl] at ht15 ⊢
                exact S_set ht15 HLT10.out.2.1
              · exact (show Kept w10 w15 (fun k => k = gs ∨ k = go_) from ⟨Nat.le_trans (Nat.le_trans HLX.out HB13.out.size) HB15.out.size, fun i_ h1_ h2_ => (HB15.out.block i_ h1_).trans ((HB13.out.block i_ (Nat.lt_of_lt_of_le h1_ HLX.out)).trans ((HKW.out.2 i_ (Nat.lt_of_lt_of_le h1_ HLx.out) (fun h_ => h2_ (.inl h_))).trans (HK.out.2 i_ h1_ h2_)))⟩).setCell (p := ⟨go_, 2, none⟩) (.inl (.inr rfl)) _
          · have hx : (er ≠ 0 ∧ RR = .bad er) ∨ (er = 0 ∧ recT kd acc ((t, none), l) = RR ∧ ¬ i < N2) := by
              rcases HJ.out with ⟨h1, h2, h3, h4⟩ | h
              · have h5 : ¬ i < N2 := fun h6 => hgo ⟨h6, h1⟩
                rw [show N2 - i = 0 by omega] at h4
                exact .inr ⟨h1, h4, h5⟩
              · exact .inl h
            obtain ⟨at_, hbox, hle, hdrop⟩ := HS.out.box
            have HBX := Aside0.mk hbox
            have hca := (blk_cell hbox 1).trans (show _ = some (Value.int .i64 (at_ : Int)) from rfl)
            have hd0 := (blk_cell HBB.out 0).trans (show _ = some (Value.int .i64 0) from rfl)
            have hd1 := (blk_cell HBB.out 1).trans (show _ = some (Value.slice none 0 0) from rfl)
            have hd2 := (blk_cell HBB.out 2).trans (show _ = some (Value.slice none 0 0) from rfl)
            have hf0 := blk_frozen HBB.out 0
            have hf1 := blk_frozen HBB.out 1
            have hf2 := blk_frozen HBB.out 2
            have HGB : Aside0 (w.heap.size ≤ gb) := ⟨Nat.le_of_eq HG0.out.symm⟩
            have HBW := Aside0.mk (below_step HB2.out HS.out.below)
            have HNF := Aside0.mk (Kd.R_kept HNR.out HK.out (fun k_ h1_ h2_ => by have h3_ := HLT7.out; have h4_ := h1_.2.1; omega))
            clear hbox HJ
            rcases hx with ⟨hne, hRR⟩ | ⟨rfl, hRR, hlt⟩
            · subst hRR
              have hq1 : (er == 0) = false := beq_eq_false_iff_ne.2 hne
              have hq2 : (er = 0) = False := eq_false hne
              have hq3 : (er != 0) = true := bne_iff_ne.2 hne
              clear hgo hdrop hle
              by_cases hlt : i < N2
              · have hp : ((i : Int) < (N2 : Int)) = True := eq_true (by omega)
                have hp2 : (i < N2) = True := eq_true hlt
                have hd : decide ((i : Int) < (N2 : Int)) = true := decide_eq_true (by omega)
                clear hlt hne
                go_wp2
                have hng := HN1.out.1
                have hng2 := hng.symm
                go_region
                trace_state
                go_wp2
                refine bodyPost_ret (results_ct rfl _ _ gb 47 _ (0, 0) _ rfl (blk_put (blk_put (blk_put HBB.out 0 _ rfl) 1 _ rfl) 2 _ rfl) Tryd.underlying47 rfl (by kernel_rfl)) rfl ?_
                exact ⟨.slice none 0 0, .slice none 0 0, rfl, Kd.R_nil _ _ _ _ _, Kd.S_nil _ _ _ _ _, (((below_drew1 HBW.out).setCell HGB.out _).setCell HGB.out _).setCell HGB.out _⟩
              · have hp : ((i : Int) < (N2 : Int)) = False := eq_false (by omega)
                have hp2 : (i < N2) = False := eq_false hlt
                have hd : decide ((i : Int) < (N2 : Int)) = false := decide_eq_false (by omega)
                clear hlt hne
                go_wp2
                have hng := HN1.out.1
                have hng2 := hng.symm
                go_region
                trace_state
                go_wp2
                refine bodyPost_ret (results_ct rfl _ _ gb 47 _ (0, 0) _ rfl (blk_put (blk_put (blk_put HBB.out 0 _ rfl) 1 _ rfl) 2 _ rfl) Tryd.underlying47 rfl (by kernel_rfl)) rfl ?_
                exact ⟨.slice none 0 0, .slice none 0 0, rfl, Kd.R_nil _ _ _ _ _, Kd.S_nil _ _ _ _ _, (((below_drew1 HBW.out).setCell HGB.out _).setCell HGB.out _).setCell HGB.out _⟩
            · have hp : ((i : Int) < (N2 : Int)) = False := eq_false (by omega)
              have hp2 : (i < N2) = False := eq_false hlt
              have hd : decide ((i : Int) < (N2 : Int)) = false := decide_eq_false (by omega)
              have hlen : l.length = q.length - at_ := by rw [← hdrop, List.length_drop]
              clear hlt hgo
              by_cases h0 : 0 < l.length
              · have hR : RR = .bad 23 := by rw [← hRR]; show (if 0 < l.length then RecI.bad 23 else RecI.good kd acc t) = RecI.bad 23; exact if_pos h0
                subst hR
                have ha1 : ((at_ : Int) < (q.length : Int)) = True := eq_true (by omega)
                have ha2 : (at_ < q.length) = True := eq_true (by omega)
                have ha3 : decide ((at_ : Int) < (q.length : Int)) = true := decide_eq_true (by omega)
                clear hRR hlen h0 hle hdrop
                go_wp2
                refine bodyPost_ret (results_ct rfl _ _ gb 47 _ (0, 0) _ rfl (blk_put (blk_put (blk_put HBB.out 0 _ rfl) 1 _ rfl) 2 _ rfl) Tryd.underlying47 rfl (by kernel_rfl)) rfl ?_
                exact ⟨.slice none 0 0, .slice none 0 0, rfl, Kd.R_nil _ _ _ _ _, Kd.S_nil _ _ _ _ _, ((HBW.out.setCell HGB.out _).setCell HGB.out _).setCell HGB.out _⟩
              · have hR : RR = .good kd acc t := by rw [← hRR]; show (if 0 < l.length then RecI.bad 23 else RecI.good kd acc t) = RecI.good kd acc t; exact if_neg h0
                subst hR
                have ha1 : ((at_ : Int) < (q.length : Int)) = False := eq_false (by omega)
                have ha2 : (at_ < q.length) = False := eq_false (by omega)
                have ha3 : decide ((at_ : Int) < (q.length : Int)) = false := decide_eq_false (by omega)
                clear hRR hlen h0 hle hdrop
                have hc0_ := (blk_cell HBO.out 0).trans rfl
                have hc1_ := (blk_cell HBO.out 1).trans rfl
                have hc2_ := (blk_cell HBO.out 2).trans rfl
                go_wp2
                refine bodyPost_ret (results_ct rfl _ _ gb 47 _ (0, 0) _ rfl (blk_put (blk_put (blk_put HBB.out 0 _ rfl) 1 _ rfl) 2 _ rfl) Tryd.underlying47 rfl (by kernel_rfl)) rfl ?_
                refine ⟨.slice D acc.length c, .slice D' t.length c', rfl, ?_, ?_, ((HBW.out.setCell HGB.out _).setCell HGB.out _).setCell HGB.out _⟩
                · exact Kd.R_mono (Kd.R_lower (R_set (R_set (R_set HNF.out HLT7.out.1) HLT7.out.1) HLT7.out.1) (Nat.le_of_lt (Nat.lt_of_le_of_lt HGB.out HLT7.out.1))) (fun _ _ => trivial)
                · exact Kd.S_mono (Kd.S_lower (S_set (S_set (S_set HTW.out HLT10.out.1) HLT10.out.1) HLT10.out.1) (Nat.le_of_lt (Nat.lt_of_le_of_lt HGB.out HLT10.out.1))) (fun _ _ => trivial)
def undercroftref05_Decode.f (k : Nat) (l : List Int) : Option (Int × List Int × List (List Int) × Int) := (undercroftref02_Open.f k l).bind fun q => if q.2 = 0 then (if oct5 q.1 = true ∧ q.1.length ≤ 140737488355328 then some (recO (recI q.1)) else none) else some (0, [], [], q.2)
theorem undercroftref05_Decode.mono : ∀ a0 k, LeO (undercroftref05_Decode.f k a0) (undercroftref05_Decode.f (k + 1) a0) := by
  intro a0 k
  unfold undercroftref05_Decode.f
  exact LeO.bind (undercroftref02_Open.mono _ k) (fun _ => LeO.refl _)
set_option maxHeartbeats 8000000 in
set_option maxRecDepth 100000 in
theorem rdec_bad (k : Nat) (A0 : Option Addr) (c0 : Nat) (l q : List Int) (e_ : Int) (w : World) (hr0 : Kd.C (Kd.int .u8) w A0 l.length l) (hc0 : l.length ≤ c0) (h1 : undercroftref02_Open.f k l = some (q, e_)) (he : ¬ e_ = 0) :
    Calls Tryd.prog 18 #[.slice A0 l.length c0] w fun e w' => ∃ v1_ v2_ : Value, e = .returned (.tuple #[.agg #[.int .i64 0, v1_, v2_], .int .i64 e_]) ∧ Kd.R (Kd.int .i64) 3 w' w.heap.size (fun _ => True) v1_ [] ∧ Kd.S (Kd.slice 5 (Kd.int .u8)) 22 w' w.heap.size (fun _ => True) v2_ [] ∧ Below w.heap.size w w' := by
  have HR0 := Aside0.mk hr0
  have HC0 := Aside0.mk hc0
  have A1 := Aside0.mk h1
  have hq1 : (e_ != 0) = true := bne_iff_ne.2 he
  have hq2 : (e_ == 0) = false := beq_eq_false_iff_ne.2 he
  have hq3 : (e_ = 0) = False := eq_false he
  clear hr0 hc0 h1 he
  go_enter Tryd.func18, Tryd.ntmps18
  go_wp2_with (first
    | ((with_reducible refine gate_dst (N := 2) rfl ?_); (try (refine gate_guard (by rfl) ?_; dsimp only)); refine box_event ?hg (N := 2) ?hd (cs := #[.int .i64 0, .slice none 0 0, .slice none 0 0]) (t := 47) ?hr ?_; (case hd => rfl); (case hg => rfl); (case hr => first | (go_simp; done) | (go_simp; rfl)); intro gb hg w1 hbox hb; go_loud (have HG := Aside0.mk hg; have HB1 := Aside0.mk hb; have HBK := Aside0.mk hbox; have HR1 := Aside0.mk (Kd.C_below HR0.out hb); clear hb hg hbox))
    | (go_at_call 31; go_loud (refine (undercroftref02_Open.calls k A0 c0 l q e_ _ HR1.out HC0.out A1.out).mono ?_; rintro e w2 ⟨v2, rfl, ho2, hb2⟩; obtain ⟨D2, e2, rfl⟩ := Kd.R_slice ho2; have HBB2 := Aside0.mk ((hb2.block _ (blk_lt HBK.out)).trans HBK.out); have HB2 := Aside0.mk (below_step HB1.out hb2); have hf0 := blk_frozen HBB2.out 0; have hf1 := blk_frozen HBB2.out 1; have hf2 := blk_frozen HBB2.out 2; have hc0 := (blk_cell HBB2.out 0).trans rfl; have hc1 := (blk_cell HBB2.out 1).trans rfl; have hc2 := (blk_cell HBB2.out 2).trans rfl; clear ho2 hb2)))
  have HGB : Aside0 (w.heap.size ≤ gb) := ⟨Nat.le_of_eq HG.out.symm⟩
  refine bodyPost_ret (results_ct rfl _ _ gb 47 _ (0, 0) _ rfl (blk_put (blk_put (blk_put HBB2.out 0 _ rfl) 1 _ rfl) 2 _ rfl) Tryd.underlying47 rfl (by kernel_rfl)) rfl ?_
  exact ⟨.slice none 0 0, .slice none 0 0, rfl, Kd.R_nil _ _ _ _ _, Kd.S_nil _ _ _ _ _, ((HB2.out.setCell HGB.out _).setCell HGB.out _).setCell HGB.out _⟩
theorem undercroftref05_Decode.calls (k : Nat) (A0 : Option Addr) (c0 : Nat) (l0 : List Int) (r1 : Int) (r2 : List Int) (r3 : List (List Int)) (r4 : Int) (w : World) (hr0 : Kd.C (Kd.int .u8) w A0 l0.length l0) (hc0 : l0.length ≤ c0) (h : undercroftref05_Decode.f k l0 = some (r1, r2, r3, r4)) :
    Calls Tryd.prog 18 #[.slice A0 l0.length c0] w fun e w' => ∃ v1_ v2_ : Value, e = .returned (.tuple #[.agg #[.int .i64 r1, v1_, v2_], .int .i64 r4]) ∧ Kd.R (Kd.int .i64) 3 w' w.heap.size (fun _ => True) v1_ r2 ∧ Kd.S (Kd.slice 5 (Kd.int .u8)) 22 w' w.heap.size (fun _ => True) v2_ r3 ∧ Below w.heap.size w w' := by
  unfold undercroftref05_Decode.f at h
  obtain ⟨⟨q, e_⟩, h1, h2⟩ := Option.bind_eq_some_iff.1 h
  simp only at h2
  by_cases he : e_ = 0
  · subst he
    rw [if_pos rfl] at h2
    by_cases ho : oct5 q = true ∧ q.length ≤ 140737488355328
    · rw [if_pos ho] at h2
      have h3 := Option.some.inj h2
      have := rdec_main k A0 c0 l0 q w hr0 hc0 h1 ho.1 ho.2 (recI q) rfl
      rw [h3] at this
      exact this
    · rw [if_neg ho] at h2; cases h2
  · rw [if_neg he] at h2
    cases h2
    exact rdec_bad k A0 c0 l0 q _ w hr0 hc0 h1 he

end Go.Proofs.YtofflfacfjkikaaDoor.PCte
