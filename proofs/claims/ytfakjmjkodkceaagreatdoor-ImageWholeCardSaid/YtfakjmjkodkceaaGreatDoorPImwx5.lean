-- Written by a program of this session (gen.py).
import Derived.Test.YtfakjmjkodkceaaGreatDoorPImwx0
import Derived.Test.YtfakjmjkodkceaaGreatDoorPImwx2
import Derived.Test.YtfakjmjkodkceaaGreatDoorPImwx4
namespace Go.Proofs.YtfakjmjkodkceaaGreatDoor.PImw
open Go.RowKit Go.Proofs.YtfakjmjkodkceaaGreatDoorW.PrintWords Go.Proofs.YtfakjmjkodkceaaGreatDoorW.PrintLast Go.Proofs.YtfakjmjkodkceaaGreatDoorW.PrintMore
open Go.Proofs.YtfakjmjkodkceaaGreatDoor.Own
attribute [local go_sem high] unary_not_u32 unary_not_u64 unary_not_u8 string_leq_ string_gtr_ string_geq_
attribute [local go_sem] max2_int min2_int max_two min_two max_three min_three max_four min_four   -- for this text's walks alone
set_option linter.unusedVariables false
set_option linter.unusedSimpArgs false

/-! ### fs_Check: function 17 -/
/-! #### the search among nodes -/
def cmpN (a b : Int) : Int := if a < b then -1 else if a = b then 0 else 1
set_option maxHeartbeats 4000000 in
set_option maxRecDepth 100000 in
theorem cmpN_calls (a b : Int) (w : World) : Calls Tryz.prog 38 #[.int .i64 a, .int .i64 b] w fun e w' => e = .returned (.int .i64 (cmpN a b)) ∧ Below w.heap.size w w' := by
 by_cases h1 : a < b
 ·have d1 : decide (a < b) = true := decide_eq_true h1
  go_enter Tryz.func38, Tryz.ntmps38
  go_wp2
  go_ret
  exact ⟨by simp [cmpN, h1], Below.refl _ _⟩
 ·have d1 : decide (a < b) = false := decide_eq_false h1
  by_cases h2 : a = b
  ·subst h2
   go_enter Tryz.func38, Tryz.ntmps38
   go_wp2
   go_ret
   exact ⟨by simp [cmpN], Below.refl _ _⟩
  ·have d2 : decide (b < a) = true := decide_eq_true (by omega)
   go_enter Tryz.func38, Tryz.ntmps38
   go_wp2
   go_ret
   exact ⟨by simp [cmpN, h1, h2], Below.refl _ _⟩
theorem divN {a b h : Nat} (hh : h = (a + b) / 2) : ((a : Int) + (b : Int)) / 2 = (h : Int) := by omega
/-- Where a search by halves ends. -/
def bsN (p : Nat → Bool) : Nat → Nat → Nat → Nat
 | 0, i, _ => i
 | f + 1, i, j => if i < j then (if p ((i + j) / 2) then bsN p f ((i + j) / 2 + 1) j else bsN p f i ((i + j) / 2)) else i
def lessN (l : List S55) (x : Int) (h : Nat) : Bool := decide (cmpN (rd_T55 l (h : Int)).f0 x < 0)
def foundN (l : List S55) (x : Int) (i : Nat) : Bool := if i < l.length then cmpN (rd_T55 l (i : Int)).f0 x == 0 else false
/-- Where a number's node stands, if it does. -/
def placeN (l : List S55) (x : Int) : Nat := bsN (lessN l x) (l.length + 1) 0 l.length
def isN (l : List S55) (x : Int) : Bool := foundN l x (placeN l x)
set_option maxHeartbeats 4000000 in
set_option maxRecDepth 100000 in
theorem cl37 (a t : Int) (d : Bool) (n s : Int) (v v' : Value) (w : World) : Calls Tryz.prog 37 #[.agg #[.int .i64 a, .bool d, .int .i64 n, v, .int .i64 s, v'], .int .i64 t] w fun e w' => e = .returned (.int .i64 (cmpN a t)) ∧ Below w.heap.size w w' := by
 go_enter Tryz.func37, Tryz.ntmps37
 go_wp2_with (go_at_call 38; refine (cmpN_calls a t _).mono ?_; rintro e w' ⟨rfl, hb⟩)
 go_ret
 exact ⟨rfl, below_step ((Below.refl _ _).alloc (Nat.le_refl _) _) hb⟩
set_option maxHeartbeats 8000000 in
set_option maxRecDepth 100000 in
theorem bsn37 (A0 : Option Addr) (c0 : Nat) (l0 : List S55) (a1 : Int) (w : World) (hr0 : Kd.C k55 w A0 l0.length l0) (hsz : l0.length ≤ 70368744177664) :
  Calls Tryz.prog 31 #[.slice A0 l0.length c0, .int .i64 a1, .func (.func 37) #[] #[]] w fun e w' => e = .returned (.tuple #[.int .i64 ((placeN l0 a1 : Nat) : Int), .bool (isN l0 a1)]) ∧ Below w.heap.size w w' := by
 have HR0 := Aside0.mk hr0
 clear hr0
 unfold isN placeN
 obtain ⟨R, hR⟩ : ∃ R, R = bsN (lessN l0 a1) (l0.length + 1) 0 l0.length := ⟨_, rfl⟩
 rw [← hR]
 have HRR := Aside0.mk hR.symm
 clear hR
 generalize hN : l0.length = N at *
 have HN := Aside0.mk hN
 clear hN
 go_enter Tryz.func31, Tryz.ntmps31
 go_wp2
 go_loopw [9, 10] (fun i j W => ∃ a b f : Nat, a ≤ b ∧ b ≤ N ∧ i = .int .i64 (a : Int) ∧ j = .int .i64 (b : Int) ∧ Aside0 (bsN (lessN l0 a1) f a b = R) ∧ b - a < f ∧ Aside0 (Below w.heap.size w W)) (fun i j _ => (intOf j).toNat - (intOf i).toNat)
 case atStart => exact ⟨0, N, N + 1, Nat.zero_le _, Nat.le_refl _, rfl, rfl, HRR, by omega, ⟨Below.refl _ _⟩⟩
 case round =>
  obtain ⟨a, b, f, hab, hbN, rfl, rfl, HF, hf, HB⟩ := hrel
  by_cases hlt : a < b
  ·obtain ⟨f, rfl⟩ : ∃ m, f = m + 1 := ⟨f - 1, by omega⟩
   have hF2 := HF.out
   simp only [bsN] at hF2
   rw [if_pos hlt] at hF2
   obtain ⟨h, hh⟩ : ∃ h, h = (a + b) / 2 := ⟨_, rfl⟩
   rw [← hh] at hF2
   obtain ⟨ad, A3, c3, A5, c5, rfl, hc1, hc2, hc3, hc4, hc5, hc6, _⟩ := at_T55 (Kd.C_below HR0.out HB.out) (h : Int) (by omega) (by omega)
   simp only [Int.toNat_natCast] at hc1 hc2 hc3 hc4 hc5 hc6
   have hw1 : wrap64 ((a : Int) + (b : Int)) = (a : Int) + (b : Int) := by unfold wrap64; omega
   have hd : decide ((a : Int) < (b : Int)) = true := by simp; omega
   have hdiv := divN hh
   have HH := Aside0.mk hh
   clear hh
   by_cases hc : cmpN (rd_T55 l0 (h : Int)).f0 a1 < 0
   ·have hdc : decide (cmpN (rd_T55 l0 (h : Int)).f0 a1 < 0) = true := by simpa using hc
    have HL := Aside0.mk (show lessN l0 a1 h = true from hdc)
    rw [if_pos HL.out] at hF2
    have HF2 := Aside0.mk hF2
    clear hF2 hc
    go_wp2_with (go_at_call 37; refine (cl37 _ _ _ _ _ _ _ _).mono ?_; rintro e w' ⟨rfl, hb⟩)
    refine ⟨⟨h + 1, b, f, by have := HH.out; omega, hbN, by simp, rfl, HF2, by have := HH.out; omega, ⟨below_step HB.out hb⟩⟩, ?_⟩
    have := HH.out
    simp [intOf]; omega
   ·have hdc : decide (cmpN (rd_T55 l0 (h : Int)).f0 a1 < 0) = false := by simpa using hc
    have HL := Aside0.mk (show ¬ lessN l0 a1 h = true by unfold lessN; rw [hdc]; decide)
    rw [if_neg HL.out] at hF2
    have HF2 := Aside0.mk hF2
    clear hF2 hc
    go_wp2_with (go_at_call 37; refine (cl37 _ _ _ _ _ _ _ _).mono ?_; rintro e w' ⟨rfl, hb⟩)
    refine ⟨⟨a, h, f, by have := HH.out; omega, by have := HH.out; omega, rfl, by simp, HF2, by have := HH.out; omega, ⟨below_step HB.out hb⟩⟩, ?_⟩
    have := HH.out
    simp [intOf]; omega
  ·obtain rfl : a = b := by omega
   have ha : a = R := by
    rw [← HF.out]
    obtain ⟨f, rfl⟩ : ∃ m, f = m + 1 := ⟨f - 1, by omega⟩
    simp [bsN]
   subst ha
   have hd : decide ((a : Int) < (a : Int)) = false := by simp
   by_cases hN2 : a < N
   ·obtain ⟨ad, A3, c3, A5, c5, rfl, hc1, hc2, hc3, hc4, hc5, hc6, _⟩ := at_T55 (Kd.C_below HR0.out HB.out) (a : Int) (by omega) (by omega)
    simp only [Int.toNat_natCast] at hc1 hc2 hc3 hc4 hc5 hc6
    have hdn : decide ((a : Int) < (N : Int)) = true := by simp; omega
    have HFO := Aside0.mk (show foundN l0 a1 a = (cmpN (rd_T55 l0 (a : Int)).f0 a1 == 0) by unfold foundN; rw [if_pos (by rw [HN.out]; exact hN2)])
    go_wp2_with (go_at_call 37; refine (cl37 _ _ _ _ _ _ _ _).mono ?_; rintro e w' ⟨rfl, hb⟩)
    go_ret2
    refine ⟨?_, below_step HB.out hb⟩
    rw [HFO.out]
    rfl
   ·have hdn : decide ((a : Int) < (N : Int)) = false := by simp; omega
    have HFO := Aside0.mk (show foundN l0 a1 a = false by unfold foundN; rw [if_neg (by rw [HN.out]; exact hN2)])
    go_wp2
    go_ret2
    refine ⟨?_, HB.out⟩
    rw [HFO.out]
    rfl
set_option maxHeartbeats 4000000 in
set_option maxRecDepth 100000 in
theorem cl92 (a t : Int) (d : Bool) (n s : Int) (v v' : Value) (w : World) : Calls Tryz.prog 92 #[.agg #[.int .i64 a, .bool d, .int .i64 n, v, .int .i64 s, v'], .int .i64 t] w fun e w' => e = .returned (.int .i64 (cmpN a t)) ∧ Below w.heap.size w w' := by
 go_enter Tryz.func92, Tryz.ntmps92
 go_wp2_with (go_at_call 38; refine (cmpN_calls a t _).mono ?_; rintro e w' ⟨rfl, hb⟩)
 go_ret
 exact ⟨rfl, below_step ((Below.refl _ _).alloc (Nat.le_refl _) _) hb⟩
set_option maxHeartbeats 8000000 in
set_option maxRecDepth 100000 in
theorem bsn92 (A0 : Option Addr) (c0 : Nat) (l0 : List S55) (a1 : Int) (w : World) (hr0 : Kd.C k55 w A0 l0.length l0) (hsz : l0.length ≤ 70368744177664) :
  Calls Tryz.prog 31 #[.slice A0 l0.length c0, .int .i64 a1, .func (.func 92) #[] #[]] w fun e w' => e = .returned (.tuple #[.int .i64 ((placeN l0 a1 : Nat) : Int), .bool (isN l0 a1)]) ∧ Below w.heap.size w w' := by
 have HR0 := Aside0.mk hr0
 clear hr0
 unfold isN placeN
 obtain ⟨R, hR⟩ : ∃ R, R = bsN (lessN l0 a1) (l0.length + 1) 0 l0.length := ⟨_, rfl⟩
 rw [← hR]
 have HRR := Aside0.mk hR.symm
 clear hR
 generalize hN : l0.length = N at *
 have HN := Aside0.mk hN
 clear hN
 go_enter Tryz.func31, Tryz.ntmps31
 go_wp2
 go_loopw [9, 10] (fun i j W => ∃ a b f : Nat, a ≤ b ∧ b ≤ N ∧ i = .int .i64 (a : Int) ∧ j = .int .i64 (b : Int) ∧ Aside0 (bsN (lessN l0 a1) f a b = R) ∧ b - a < f ∧ Aside0 (Below w.heap.size w W)) (fun i j _ => (intOf j).toNat - (intOf i).toNat)
 case atStart => exact ⟨0, N, N + 1, Nat.zero_le _, Nat.le_refl _, rfl, rfl, HRR, by omega, ⟨Below.refl _ _⟩⟩
 case round =>
  obtain ⟨a, b, f, hab, hbN, rfl, rfl, HF, hf, HB⟩ := hrel
  by_cases hlt : a < b
  ·obtain ⟨f, rfl⟩ : ∃ m, f = m + 1 := ⟨f - 1, by omega⟩
   have hF2 := HF.out
   simp only [bsN] at hF2
   rw [if_pos hlt] at hF2
   obtain ⟨h, hh⟩ : ∃ h, h = (a + b) / 2 := ⟨_, rfl⟩
   rw [← hh] at hF2
   obtain ⟨ad, A3, c3, A5, c5, rfl, hc1, hc2, hc3, hc4, hc5, hc6, _⟩ := at_T55 (Kd.C_below HR0.out HB.out) (h : Int) (by omega) (by omega)
   simp only [Int.toNat_natCast] at hc1 hc2 hc3 hc4 hc5 hc6
   have hw1 : wrap64 ((a : Int) + (b : Int)) = (a : Int) + (b : Int) := by unfold wrap64; omega
   have hd : decide ((a : Int) < (b : Int)) = true := by simp; omega
   have hdiv := divN hh
   have HH := Aside0.mk hh
   clear hh
   by_cases hc : cmpN (rd_T55 l0 (h : Int)).f0 a1 < 0
   ·have hdc : decide (cmpN (rd_T55 l0 (h : Int)).f0 a1 < 0) = true := by simpa using hc
    have HL := Aside0.mk (show lessN l0 a1 h = true from hdc)
    rw [if_pos HL.out] at hF2
    have HF2 := Aside0.mk hF2
    clear hF2 hc
    go_wp2_with (go_at_call 92; refine (cl92 _ _ _ _ _ _ _ _).mono ?_; rintro e w' ⟨rfl, hb⟩)
    refine ⟨⟨h + 1, b, f, by have := HH.out; omega, hbN, by simp, rfl, HF2, by have := HH.out; omega, ⟨below_step HB.out hb⟩⟩, ?_⟩
    have := HH.out
    simp [intOf]; omega
   ·have hdc : decide (cmpN (rd_T55 l0 (h : Int)).f0 a1 < 0) = false := by simpa using hc
    have HL := Aside0.mk (show ¬ lessN l0 a1 h = true by unfold lessN; rw [hdc]; decide)
    rw [if_neg HL.out] at hF2
    have HF2 := Aside0.mk hF2
    clear hF2 hc
    go_wp2_with (go_at_call 92; refine (cl92 _ _ _ _ _ _ _ _).mono ?_; rintro e w' ⟨rfl, hb⟩)
    refine ⟨⟨a, h, f, by have := HH.out; omega, by have := HH.out; omega, rfl, by simp, HF2, by have := HH.out; omega, ⟨below_step HB.out hb⟩⟩, ?_⟩
    have := HH.out
    simp [intOf]; omega
  ·obtain rfl : a = b := by omega
   have ha : a = R := by
    rw [← HF.out]
    obtain ⟨f, rfl⟩ : ∃ m, f = m + 1 := ⟨f - 1, by omega⟩
    simp [bsN]
   subst ha
   have hd : decide ((a : Int) < (a : Int)) = false := by simp
   by_cases hN2 : a < N
   ·obtain ⟨ad, A3, c3, A5, c5, rfl, hc1, hc2, hc3, hc4, hc5, hc6, _⟩ := at_T55 (Kd.C_below HR0.out HB.out) (a : Int) (by omega) (by omega)
    simp only [Int.toNat_natCast] at hc1 hc2 hc3 hc4 hc5 hc6
    have hdn : decide ((a : Int) < (N : Int)) = true := by simp; omega
    have HFO := Aside0.mk (show foundN l0 a1 a = (cmpN (rd_T55 l0 (a : Int)).f0 a1 == 0) by unfold foundN; rw [if_pos (by rw [HN.out]; exact hN2)])
    go_wp2_with (go_at_call 92; refine (cl92 _ _ _ _ _ _ _ _).mono ?_; rintro e w' ⟨rfl, hb⟩)
    go_ret2
    refine ⟨?_, below_step HB.out hb⟩
    rw [HFO.out]
    rfl
   ·have hdn : decide ((a : Int) < (N : Int)) = false := by simp; omega
    have HFO := Aside0.mk (show foundN l0 a1 a = false by unfold foundN; rw [if_neg (by rw [HN.out]; exact hN2)])
    go_wp2
    go_ret2
    refine ⟨?_, HB.out⟩
    rw [HFO.out]
    rfl
/-! #### a node's place -/
set_option maxHeartbeats 8000000 in
set_option maxRecDepth 100000 in
theorem place_calls (gs : Nat) (A0 : Option Addr) (c0 : Nat) (l0 : List S55) (nx : Int) (x : Int) (w : World) (hb : w.heap[gs]? = some (.cells #[.slice A0 l0.length c0, .int .i64 nx] 32 (0, 0))) (hr0 : Kd.C k55 w A0 l0.length l0) (hsz : l0.length ≤ 70368744177664) :
  Calls Tryz.prog 78 #[.pointer (some ⟨gs, 0, none⟩), .int .i64 x] w fun e w' => e = .returned (.tuple #[.int .i64 ((placeN l0 x : Nat) : Int), .bool (isN l0 x)]) ∧ Below w.heap.size w w' := by
 have HB := Aside0.mk (bsn92 A0 c0 l0 x w hr0 hsz)
 have hc0 : w.cell? ⟨gs, 0, none⟩ = some (.slice A0 l0.length c0) := (blk_cell hb 0).trans rfl
 clear hr0
 generalize placeN l0 x = R at *
 generalize isN l0 x = F at *
 have hu32 := Tryz.underlying32
 go_enter Tryz.func78, Tryz.ntmps78
 go_wp2_with (go_at_call 31; refine HB.out.mono ?_; rintro e w' ⟨rfl, hb⟩)
 go_ret2
 exact ⟨rfl, hb⟩
set_option maxHeartbeats 8000000 in
set_option maxRecDepth 100000 in
theorem node_calls (gs : Nat) (ad : Addr) (c0 : Nat) (l0 : List S55) (nx : Int) (x : Int) (w : World) (hb : w.heap[gs]? = some (.cells #[.slice (some ad) l0.length c0, .int .i64 nx] 32 (0, 0))) (hr0 : Kd.C k55 w (some ad) l0.length l0) (hsz : l0.length ≤ 70368744177664) (hlt : placeN l0 x < l0.length) :
  Calls Tryz.prog 59 #[.pointer (some ⟨gs, 0, none⟩), .int .i64 x] w fun e w' => e = .returned (.pointer (some (ad.add (placeN l0 x * 6)))) ∧ Below w.heap.size w w' := by
 have HB := Aside0.mk (place_calls gs (some ad) c0 l0 nx x w hb hr0 hsz)
 have HG := Aside0.mk hb
 clear hb hr0
 generalize placeN l0 x = R at *
 generalize isN l0 x = F at *
 have hu32 := Tryz.underlying32
 have hu30 := Tryz.underlying30
 have h0 : (0 : Int) ≤ (R : Int) := Int.natCast_nonneg _
 have h1 : (R : Int) < (l0.length : Int) := Int.ofNat_lt.2 hlt
 go_enter Tryz.func59, Tryz.ntmps59
 go_wp2_with (go_at_call 78; go_loud (refine HB.out.mono ?_; rintro e w' ⟨rfl, hb⟩; have HG1 := Aside0.mk ((hb.block gs (blk_lt HG.out)).trans HG.out); have hc0 : w'.cell? ⟨gs, 0, none⟩ = some (.slice (some ad) l0.length c0) := (blk_cell HG1.out 0).trans rfl))
 go_ret
 exact ⟨by simp, hb⟩
/-! #### maps by numbers -/
def Rq (v : Value) : Option (DataW Value × List MemPlace) := some (.held v, [])
theorem keyQ : Maps.Keyed Tryz.prog 3 := Maps.int_keyed Tryz.underlying3
theorem keyOfQ {i : Int} (hi : (Lit.int .i64 i).wf = true) : keyOf Tryz.prog 3 (.int .i64 i) = some (.int .i64 i) := Maps.keyOf_int_mk Tryz.underlying3 hi
theorem isKeyQ {i : Int} (hi : (Lit.int .i64 i).wf = true) : WideAt.IsKeyLit (.int .i64 i) := keyQ.key (keyOfQ hi)
def addQ (L : List Int) (i : Int) : List Int := if i ∈ L then L else L ++ [i]
def putQ (V : Int → Value) (i : Int) (v : Value) : Int → Value := fun j => if j = i then v else V j
/-- Block mb is a map whose keys are L, and which tells V of each number (z of one that is no key). -/
def Mq (W : World) (mb : Nat) (L : List Int) (z : Value) (V : Int → Value) : Prop := ∃ D, W.ownsMap Tryz.prog 3 Rq mb L.length D ∧ Maps.size D = L.length ∧ (∀ i, (Lit.int .i64 i).wf = true → Maps.has D (.int .i64 i) = decide (i ∈ L)) ∧ ∀ i, (Lit.int .i64 i).wf = true → D.atKey (.int .i64 i) (.held z) = .held (V i)
theorem Mq.made (W : World) (z : Value) : Mq (W.alloc (.map #[] 0)) W.heap.size [] z (fun _ => z) :=
 ⟨_, World.ownsMap_made W _ _ _, rfl, fun i _ => by simp [Maps.has], fun i _ => Maps.atKey_of_not_has (by simp [Maps.has]) _⟩
theorem Mq.lt {W : World} {mb : Nat} {L : List Int} {z : Value} {V : Int → Value} (h : Mq W mb L z V) : mb < W.heap.size := by
 obtain ⟨D, h, _⟩ := h
 exact h.lt
theorem Mq.move {W W' : World} {mb : Nat} {L : List Int} {z : Value} {V : Int → Value} (h : Mq W mb L z V) (hb : W'.heap[mb]? = W.heap[mb]?) : Mq W' mb L z V := by
 obtain ⟨D, ⟨es, clock, h1, h2⟩, h3⟩ := h
 exact ⟨D, ⟨es, clock, hb.trans h1, h2⟩, h3⟩
theorem Mq.below {W W' : World} {mb : Nat} {L : List Int} {z : Value} {V : Int → Value} (h : Mq W mb L z V) (hb : Below W.heap.size W W') : Mq W' mb L z V := h.move (hb.block mb h.lt)
theorem owns_tight {W : World} {mb n : Nat} {D : DataW Value} (h : W.ownsMap Tryz.prog 3 Rq mb n D) : W.ownsMap Tryz.prog 3 Rq mb (Maps.size D) D := by
 obtain ⟨es, clock, hb, F, _, rfl⟩ := h
 exact ⟨es, clock, hb, F, by simp [Maps.size, length_sorted], rfl⟩
theorem addQ_len (L : List Int) (i : Int) : (addQ L i).length = if i ∈ L then L.length else L.length + 1 := by
 unfold addQ
 split <;> simp
theorem addQ_mem (L : List Int) (i j : Int) : j ∈ addQ L i ↔ j ∈ L ∨ j = i := by
 unfold addQ
 split
 ·rename_i h
  exact ⟨.inl, fun h2 => h2.elim id (fun e => e ▸ h)⟩
 ·simp
theorem int_lit_ne {i j : Int} (h : j ≠ i) : Lit.int .i64 j ≠ Lit.int .i64 i := fun e => by injection e with _ e; exact h e
theorem Mq.store {t e : TypeId} (ht : Tryz.prog.underlying t = some (.map 3 e)) {W : World} {mb : Nat} {L : List Int} {z : Value} {V : Int → Value} (h : Mq W mb L z V) {i : Int} (hi : (Lit.int .i64 i).wf = true) (hn : L.length < maxLen) (v : Value) :
  ∃ w', (Instr.mapUpdate t (.map (some mb)) (.int .i64 i) v).run Tryz.prog W = .ok () w' ∧ Mq w' mb (addQ L i) z (putQ V i v) ∧ W.grownBy w' (some mb) := by
 obtain ⟨D, h1, h2, h3, h4⟩ := h
 obtain ⟨w', hr, ho, hg⟩ := h1.update keyQ ht hn (keyOfQ hi) (val := v) (d := .held v) (ps := []) rfl
 have hs : Maps.size (D.put (.int .i64 i) (.held v)) = (addQ L i).length := by
  rw [Maps.size_put (h1.tidy keyQ), h3 i hi, addQ_len, h2]
  by_cases c : i ∈ L
  ·rw [if_pos (by simpa using c), if_pos c]
  ·rw [if_neg (by simpa using c), if_neg c]
 refine ⟨w', hr, ⟨_, hs ▸ owns_tight ho, hs, fun j hj => ?_, fun j hj => ?_⟩, hg⟩
 ·by_cases c : j = i
  ·subst c
   rw [Maps.has_put_same h1.isMap (isKeyQ hi)]
   exact (decide_eq_true ((addQ_mem L j j).2 (.inr rfl))).symm
  ·rw [Maps.has_put_other (int_lit_ne c), h3 j hj]
   refine decide_eq_decide.2 ?_
   rw [addQ_mem]
   exact ⟨.inl, fun h_ => h_.elim id (fun e => absurd e c)⟩
 ·unfold putQ
  by_cases c : j = i
  ·subst c
   rw [Maps.atKey_put_same h1.isMap (isKeyQ hi), if_pos rfl]
  ·rw [Maps.atKey_put_other (int_lit_ne c), if_neg c, h4 j hj]
theorem Mq.look {t e : TypeId} (ht : Tryz.prog.underlying t = some (.map 3 e)) {W : World} {mb : Nat} {L : List Int} {z : Value} {V : Int → Value} (h : Mq W mb L z V) (hz : (zeroValue e).run Tryz.prog W = .ok z W) {i : Int} (hi : (Lit.int .i64 i).wf = true) :
  (Instr.lookup t (.map (some mb)) (.int .i64 i) false).run Tryz.prog W = .ok (V i) W := by
 obtain ⟨D, h1, _, _, h4⟩ := h
 obtain ⟨v, ps, hr, hv⟩ := h1.lookup keyQ ht hz (zd := .held z) (zp := []) rfl (keyOfQ hi)
 rw [hr]
 have hv' : DataW.held v = D.atKey (.int .i64 i) (.held z) := congrArg Prod.fst (Option.some.inj hv)
 rw [h4 i hi] at hv'
 rw [DataW.held.inj hv']
theorem Mq.len {t e : TypeId} (ht : Tryz.prog.underlying t = some (.map 3 e)) {W : World} {mb : Nat} {L : List Int} {z : Value} {V : Int → Value} (h : Mq W mb L z V) (ty : TypeId) : (Builtin.len_ #[t] ty #[.map (some mb)]).run Tryz.prog W = .ok (.int .i64 (L.length : Int)) W := by
 obtain ⟨D, h1, h2, _⟩ := h
 rw [h1.len ht ty, h2]
/-! #### which numbers are a node's -/
theorem cmpN_zero {a b : Int} (h : (cmpN a b == 0) = true) : a = b := by
 unfold cmpN at h
 split at h
 ·simp at h
 ·split at h
  ·assumption
  ·simp at h
theorem isN_place {l : List S55} {x : Int} (h : isN l x = true) : placeN l x < l.length ∧ (rd_T55 l ((placeN l x : Nat) : Int)).f0 = x := by
 unfold isN foundN at h
 split at h
 ·rename_i hlt
  exact ⟨hlt, cmpN_zero h⟩
 ·cases h
theorem isN_mem {l : List S55} {x : Int} (h : isN l x = true) : x ∈ l.map (·.f0) := by
 obtain ⟨h1, h2⟩ := isN_place h
 refine List.mem_map.2 ⟨l[placeN l x], List.getElem_mem h1, ?_⟩
 refine Eq.trans ?_ h2
 unfold rd_T55
 rw [Int.toNat_natCast, List.getD_eq_getElem?_getD, List.getElem?_eq_getElem h1]
 rfl
theorem nodup_le : ∀ {L M : List Int}, L.Nodup → (∀ x ∈ L, x ∈ M) → L.length ≤ M.length
 | [], M, _, _ => Nat.zero_le _
 | x :: L, M, hn, hs => by
  obtain ⟨h1, h2⟩ := List.nodup_cons.1 hn
  have hx := hs x (List.mem_cons_self ..)
  have h3 := nodup_le (L := L) (M := M.erase x) h2 (fun y hy => (List.mem_erase_of_ne (fun e : y = x => h1 (e ▸ hy))).2 (hs y (List.mem_cons_of_mem _ hy)))
  rw [List.length_erase_of_mem hx] at h3
  have := List.length_pos_of_mem hx
  simp only [List.length_cons]
  omega
/-- Keys that are nodes' numbers, each once. -/
def Ln (l : List S55) (L : List Int) : Prop := L.Nodup ∧ ∀ x ∈ L, isN l x = true
theorem Ln.nil (l : List S55) : Ln l [] := ⟨List.nodup_nil, fun x hx => by cases hx⟩
theorem Ln.add {l : List S55} {L : List Int} (h : Ln l L) {x : Int} (hx : isN l x = true) : Ln l (addQ L x) := by
 unfold addQ
 split
 ·exact h
 ·rename_i hc
  refine ⟨List.nodup_append.2 ⟨h.1, by simp, fun a ha b hb e => ?_⟩, fun y hy => ?_⟩
  ·rw [List.mem_singleton.1 hb] at e
   exact hc (e ▸ ha)
  ·rcases List.mem_append.1 hy with hy | hy
   ·exact h.2 y hy
   ·rw [List.mem_singleton.1 hy]
    exact hx
theorem Ln.len {l : List S55} {L : List Int} (h : Ln l L) : L.length ≤ l.length := by
 have h1 := nodup_le h.1 (fun x hx => isN_mem (h.2 x hx))
 rw [List.length_map] at h1
 exact h1
theorem lessN_ {N j : Nat} (h : j < N) : N - (intOf (.int .i64 ((j + 1 : Nat) : Int))).toNat < N - (intOf (.int .i64 (j : Int))).toNat := by simp only [intOf]; omega
theorem wrN {N j : Nat} (h : j < N) (h2 : N ≤ 9223372036854775807) : wrap64 ((j : Int) + 1) = ((j + 1 : Nat) : Int) := by unfold wrap64; omega
/-! #### all nodes from one on -/
def reachN (l : List S55) : Nat → Int → List Int → List Int
 | 0, x, L => addQ L x
 | n + 1, x, L => (rd_T55 l ((placeN l x : Nat) : Int)).f3.foldl (fun L e => reachN l n e.f1 L) (addQ L x)
/-- Each entry names a node. -/
def Named (l : List S55) : Prop := ∀ nd ∈ l, ∀ e ∈ nd.f3, (Lit.int .i64 e.f1).wf = true ∧ isN l e.f1 = true
theorem reach_foldl {l : List S55} {n : Nat} (ih : ∀ x L, isN l x = true → Ln l L → Ln l (reachN l n x L)) : ∀ (es : List S88) (L : List Int), (∀ e ∈ es, isN l e.f1 = true) → Ln l L → Ln l (es.foldl (fun L e => reachN l n e.f1 L) L)
 | [], L, _, h => h
 | e :: es, L, hs, h => reach_foldl ih es _ (fun e' he => hs e' (List.mem_cons_of_mem _ he)) (ih e.f1 L (hs e (List.mem_cons_self ..)) h)
theorem rd55_mem {l : List S55} {i : Nat} (h : i < l.length) : rd_T55 l (i : Int) ∈ l := by
 unfold rd_T55
 rw [Int.toNat_natCast, List.getD_eq_getElem?_getD, List.getElem?_eq_getElem h]
 exact List.getElem_mem h
theorem reach_ln {l : List S55} (hN : Named l) : ∀ n x L, isN l x = true → Ln l L → Ln l (reachN l n x L)
 | 0, x, L, hx, h => h.add hx
 | n + 1, x, L, hx, h => reach_foldl (reach_ln hN n) _ _ (fun e he => (hN _ (rd55_mem (isN_place hx).1) e he).2) (h.add hx)
theorem maxLen_128 : 128 < maxLen := by decide
set_option maxHeartbeats 8000000 in
set_option maxRecDepth 100000 in
theorem reached_calls (w0 : World) (gs mb : Nat) (ad : Addr) (c0 : Nat) (l : List S55) (nx : Int) (hr0 : Kd.C k55 w0 (some ad) l.length l) (hsz : l.length ≤ 128) (hN : Named l) (hne : gs ≠ mb) (hmb : w0.heap.size ≤ mb) :
  ∀ (n : Nat) (x : Int) (L : List Int) (V : Int → Value) (z : Value) (w : World), n ≤ 8 → (Lit.int .i64 x).wf = true → isN l x = true → Ln l L → Mq w mb L z V → w.heap[gs]? = some (.cells #[.slice (some ad) l.length c0, .int .i64 nx] 32 (0, 0)) → Below w0.heap.size w0 w →
  Calls Tryz.prog 40 #[.pointer (some ⟨gs, 0, none⟩), .int .i64 x, .int .i64 (n : Int), .map (some mb)] w fun e w' => e = .returned (.tuple #[]) ∧ (∃ V', Mq w' mb (reachN l n x L) z V') ∧ w'.heap[gs]? = some (.cells #[.slice (some ad) l.length c0, .int .i64 nx] 32 (0, 0)) ∧ Below w0.heap.size w0 w' := by
 intro n
 induction n with
 | zero =>
  intro x L V z w hn8 hx hxN hL hM hg hB
  have hlen : L.length < maxLen := Nat.lt_of_le_of_lt (Nat.le_trans hL.len hsz) maxLen_128
  obtain ⟨w1, hrun, hM1, hgr⟩ := hM.store Tryz.underlying92 hx hlen (.bool true)
  have HM1 := Aside0.mk hM1
  have HG1 := Aside0.mk ((hgr.block gs (blk_lt hg) (fun e => hne (Option.some.inj e))).trans hg)
  have HB1 := Aside0.mk (pw_below_grown hB (some mb) hB.size hgr (fun k e => by injection e with e; omega))
  clear hM1 hgr hM hg hB hL
  go_enter Tryz.func40, Tryz.ntmps40
  go_wp2
  first | go_end0 | ((try simp only [Exit.inBlock, Exit.then]); refine bodyPost_ret (results_none rfl _ _ _) rfl ?_)
  exact ⟨rfl, ⟨_, HM1.out⟩, HG1.out, HB1.out⟩
 | succ n ih =>
  intro x L V z w hn8 hx hxN hL hM hg hB
  have hlen : L.length < maxLen := Nat.lt_of_le_of_lt (Nat.le_trans hL.len hsz) maxLen_128
  obtain ⟨w1, hrun, hM1, hgr⟩ := hM.store Tryz.underlying92 hx hlen (.bool true)
  have HM1 := Aside0.mk hM1
  have HG1 := Aside0.mk ((hgr.block gs (blk_lt hg) (fun e => hne (Option.some.inj e))).trans hg)
  have HB1 := Aside0.mk (pw_below_grown hB (some mb) hB.size hgr (fun k e => by injection e with e; omega))
  have HL1 := Aside0.mk (hL.add hxN)
  have HXN := Aside0.mk hxN
  obtain ⟨P, hP⟩ : ∃ P, P = placeN l x := ⟨_, rfl⟩
  have hPl : P < l.length := by rw [hP]; exact (isN_place hxN).1
  have hrl : reachN l (n + 1) x L = (rd_T55 l (P : Int)).f3.foldl (fun L e => reachN l n e.f1 L) (addQ L x) := by rw [hP]; rfl
  have HRL := Aside0.mk hrl
  have HPE := Aside0.mk hP
  have HE := Aside0.mk (hN _ (rd55_mem hPl))
  clear hM1 hgr hM hg hB hL hxN hrl hP hlen hx
  have hn0 : decide (((n + 1 : Nat) : Int) > 0) = true := decide_eq_true (by omega)
  have hsub : wrap64 (((n + 1 : Nat) : Int) - 1) = (n : Int) := by unfold wrap64; omega
  obtain ⟨ad', A3, c3, A5, c5, he, k0, k1, k2, k3, k4, k5, h6, h7, _⟩ := at_T55 hr0 (P : Int) (Int.natCast_nonneg _) (Int.ofNat_lt.2 hPl)
  obtain rfl := Option.some.inj he
  rw [Int.toNat_natCast] at k3
  have K3 := Aside0.mk k3
  have H6 := Aside0.mk h6
  have H7 := Aside0.mk h7
  clear k0 k1 k2 k3 k4 k5 h6 h7
  have HPL := Aside0.mk hPl
  have HSUB := Aside0.mk hsub
  clear hsub hPl
  have hu55 := Tryz.underlying55
  have hu88 := Tryz.underlying88
  go_enter Tryz.func40, Tryz.ntmps40
  go_wp2_with (go_at_call 59; go_loud (refine (node_calls gs ad c0 l nx x w1 HG1.out (Kd.C_below hr0 HB1.out) (Nat.le_trans hsz (by decide)) (isN_place HXN.out).1).mono ?_; rintro e w2 ⟨rfl, hb⟩; rw [← HPE.out]; have HM2 := Aside0.mk (HM1.out.below hb); have HG2 := Aside0.mk ((hb.block gs (blk_lt HG1.out)).trans HG1.out); have HB2 := Aside0.mk (below_step HB1.out hb); have k3 := pw_cell_below HB2.out K3.out; clear hb))
  obtain ⟨es, hes⟩ : ∃ es, es = (rd_T55 l (P : Int)).f3 := ⟨_, rfl⟩
  rw [← hes] at H6 H7 HRL HE ⊢
  clear hes
  obtain ⟨N, hNN⟩ : ∃ N, N = es.length := ⟨_, rfl⟩
  have HN := Aside0.mk hNN
  rw [← hNN] at H6 H7 ⊢
  clear hNN k3
  have HZ2 := Aside0.mk HB2.out.size
  go_loopw [21] (fun v21 W => ∃ (j : Nat) (L' : List Int), j ≤ N ∧ v21 = .int .i64 (j : Int) ∧ Aside0 (es.foldl (fun L e => reachN l n e.f1 L) (addQ L x) = (es.drop j).foldl (fun L e => reachN l n e.f1 L) L') ∧ Aside0 (Ln l L') ∧ Aside0 (∃ V', Mq W mb L' z V') ∧ Aside0 (W.heap[gs]? = some (.cells #[.slice (some ad) l.length c0, .int .i64 nx] 32 (0, 0))) ∧ Aside0 (Below w0.heap.size w0 W)) (fun v21 _ => N - (intOf v21).toNat)
  case atStart => exact ⟨0, addQ L x, Nat.zero_le _, rfl, ⟨by rw [List.drop_zero]⟩, HL1, ⟨_, HM2.out⟩, HG2, HB2⟩
  case round =>
   obtain ⟨j, L', hj, rfl, HF, HLL, HMM, HGW, HBW⟩ := hrel
   by_cases hlt : j < N
   ·have hd : decide ((j : Int) < (N : Int)) = true := decide_eq_true (Int.ofNat_lt.2 hlt)
    have hje : j < es.length := by rw [← HN.out]; exact hlt
    obtain ⟨ae, hae, he0, he1⟩ := at_T88 (n := N) (Kd.C_below H7.out HBW.out) (j : Int) (Int.natCast_nonneg _) (Int.ofNat_lt.2 hlt)
    subst hae
    rw [Int.toNat_natCast] at he0 he1
    obtain ⟨e, hee⟩ : ∃ e, e = rd_T88 es (j : Int) := ⟨_, rfl⟩
    rw [← hee] at he0 he1
    have hem : e = es[j] := by rw [hee]; unfold rd_T88; rw [Int.toNat_natCast, List.getD_eq_getElem?_getD, List.getElem?_eq_getElem hje]; rfl
    have HE1 := Aside0.mk (HE.out e (by rw [hem]; exact List.getElem_mem hje))
    have HDR := Aside0.mk (show es.drop j = e :: es.drop (j + 1) by rw [hem]; exact List.drop_eq_getElem_cons hje)
    clear hee hem hje
    obtain ⟨V', hMW⟩ := HMM.out
    have HMW := Aside0.mk hMW
    clear hMW
    have hsub := HSUB.out
    have h0j : (0 : Int) ≤ (j : Int) := Int.natCast_nonneg _
    have hjN : (j : Int) < (N : Int) := Int.ofNat_lt.2 hlt
    go_wp2_with (go_at_call 40; go_loud (obtain ⟨W1, hW1⟩ : ∃ W, W = wr.alloc (.cells #[.string e.f0, .int .i64 e.f1] 88) := ⟨_, rfl⟩; rw [← hW1]; have hb1 : Below wr.heap.size wr W1 := (by rw [hW1]; exact below_alloc (Below.refl _ _) _); have HR1 := Aside0.mk (ih e.f1 L' V' z W1 (Nat.le_of_succ_le hn8) HE1.out.1 HE1.out.2 HLL.out (HMW.out.below hb1) ((hb1.block gs (blk_lt HGW.out)).trans HGW.out) (below_step HBW.out hb1)); clear hb1 hW1; refine HR1.out.mono ?_; rintro e_ w5 ⟨rfl, hM5, hG5, hB5⟩; have HM5 := Aside0.mk hM5; have HG5 := Aside0.mk hG5; have HB5 := Aside0.mk hB5; clear hM5 hG5 hB5))
    rw [wrN hlt H7.out.2.1]
    refine ⟨⟨j + 1, reachN l n e.f1 L', hlt, rfl, ⟨by rw [HF.out, HDR.out, List.foldl_cons]⟩, ⟨reach_ln hN n e.f1 L' HE1.out.2 HLL.out⟩, HM5, HG5, HB5⟩, lessN_ hlt⟩
   ·have hmN : j = N := Nat.le_antisymm hj (Nat.le_of_not_lt hlt)
    obtain rfl := hmN
    have hd : decide ((j : Int) < (j : Int)) = false := decide_eq_false (Int.lt_irrefl _)
    go_wp2
    first | go_end0 | ((try simp only [Exit.inBlock, Exit.then]); refine bodyPost_ret (results_none rfl _ _ _) rfl ?_)
    refine ⟨rfl, ?_, HGW.out, HBW.out⟩
    rw [HRL.out, HF.out, List.drop_eq_nil_of_le (by rw [← HN.out]; exact Nat.le_refl _)]
    exact HMM.out
/-! #### how many names lie below a node -/
def depthN (l : List S55) : Nat → Int → Nat
 | 0, _ => 0
 | n + 1, x => if (rd_T55 l ((placeN l x : Nat) : Int)).f1 = true then (rd_T55 l ((placeN l x : Nat) : Int)).f3.foldl (fun d e => max d (1 + depthN l n e.f1)) 0 else 0
theorem depth_foldl {l : List S55} {n : Nat} (ih : ∀ x, depthN l n x ≤ n) : ∀ (es : List S88) (d : Nat), d ≤ n + 1 → es.foldl (fun d e => max d (1 + depthN l n e.f1)) d ≤ n + 1
 | [], d, h => h
 | e :: es, d, h => depth_foldl ih es _ (by have := ih e.f1; simp only []; omega)
theorem depth_le (l : List S55) : ∀ n x, depthN l n x ≤ n
 | 0, _ => Nat.le_refl _
 | n + 1, x => by
  unfold depthN
  split
  ·exact depth_foldl (depth_le l n) _ 0 (Nat.zero_le _)
  ·exact Nat.zero_le _
theorem mxN (d k : Nat) : (if (d : Int) < 1 + (k : Int) then 1 + (k : Int) else (d : Int)) = ((max d (1 + k) : Nat) : Int) := by split <;> omega
theorem wr1 {d : Nat} (h : d ≤ 9) : wrap64 (1 + (d : Int)) = ((1 + d : Nat) : Int) := by unfold wrap64; omega
theorem wrsub {n : Nat} (h : n ≤ 9) : wrap64 ((n : Int) - 1) = (n : Int) - 1 := by unfold wrap64; omega
set_option maxHeartbeats 8000000 in
set_option maxRecDepth 100000 in
theorem depth_calls (w0 : World) (gs : Nat) (ad : Addr) (c0 : Nat) (l : List S55) (nx : Int) (hr0 : Kd.C k55 w0 (some ad) l.length l) (hsz : l.length ≤ 128) (hN : Named l) :
  ∀ (n : Nat) (x : Int) (w : World), n ≤ 9 → isN l x = true → w.heap[gs]? = some (.cells #[.slice (some ad) l.length c0, .int .i64 nx] 32 (0, 0)) → Below w0.heap.size w0 w →
  Calls Tryz.prog 41 #[.pointer (some ⟨gs, 0, none⟩), .int .i64 x, .int .i64 ((n : Int) - 1)] w fun e w' => e = .returned (.int .i64 ((depthN l n x : Nat) : Int)) ∧ Below w.heap.size w w' := by
 intro n
 induction n with
 | zero =>
  intro x w hn8 hxN hg hB
  have HG := Aside0.mk hg
  have HB := Aside0.mk hB
  have HXN := Aside0.mk hxN
  obtain ⟨P, hP⟩ : ∃ P, P = placeN l x := ⟨_, rfl⟩
  have hPl : P < l.length := by rw [hP]; exact (isN_place hxN).1
  have HPE := Aside0.mk hP
  obtain ⟨ad', A3, c3, A5, c5, he, k0, k1, k2, k3, k4, k5, h6, h7, _⟩ := at_T55 hr0 (P : Int) (Int.natCast_nonneg _) (Int.ofNat_lt.2 hPl)
  obtain rfl := Option.some.inj he
  rw [Int.toNat_natCast] at k1
  have K1 := Aside0.mk k1
  clear k0 k1 k2 k3 k4 k5 h6 h7 hg hB hxN hP hPl
  have hu55 := Tryz.underlying55
  cases hdir : (rd_T55 l (P : Int)).f1 with
  | true =>
   rw [hdir] at K1
   clear hdir
   go_enter Tryz.func41, Tryz.ntmps41
   go_wp2_with (go_at_call 59; go_loud (refine (node_calls gs ad c0 l nx x w HG.out (Kd.C_below hr0 HB.out) (Nat.le_trans hsz (by decide)) (isN_place HXN.out).1).mono ?_; rintro e w2 ⟨rfl, hb⟩; rw [← HPE.out]; have HB2 := Aside0.mk (below_step HB.out hb); have k1 := pw_cell_below HB2.out K1.out; have HBB := Aside0.mk hb; clear hb))
   go_ret
   exact ⟨rfl, HBB.out⟩
  | false =>
   rw [hdir] at K1
   clear hdir
   go_enter Tryz.func41, Tryz.ntmps41
   go_wp2_with (go_at_call 59; go_loud (refine (node_calls gs ad c0 l nx x w HG.out (Kd.C_below hr0 HB.out) (Nat.le_trans hsz (by decide)) (isN_place HXN.out).1).mono ?_; rintro e w2 ⟨rfl, hb⟩; rw [← HPE.out]; have HB2 := Aside0.mk (below_step HB.out hb); have k1 := pw_cell_below HB2.out K1.out; have HBB := Aside0.mk hb; clear hb))
   go_ret
   exact ⟨rfl, HBB.out⟩
 | succ n ih =>
  intro x w hn8 hxN hg hB
  have HG := Aside0.mk hg
  have HB := Aside0.mk hB
  have HXN := Aside0.mk hxN
  obtain ⟨P, hP⟩ : ∃ P, P = placeN l x := ⟨_, rfl⟩
  have hPl : P < l.length := by rw [hP]; exact (isN_place hxN).1
  have hrl : depthN l (n + 1) x = if (rd_T55 l (P : Int)).f1 = true then (rd_T55 l (P : Int)).f3.foldl (fun d e => max d (1 + depthN l n e.f1)) 0 else 0 := by rw [hP]; rfl
  have HPE := Aside0.mk hP
  have HE := Aside0.mk (hN _ (rd55_mem hPl))
  obtain ⟨ad', A3, c3, A5, c5, he, k0, k1, k2, k3, k4, k5, h6, h7, _⟩ := at_T55 hr0 (P : Int) (Int.natCast_nonneg _) (Int.ofNat_lt.2 hPl)
  obtain rfl := Option.some.inj he
  rw [Int.toNat_natCast] at k1 k3
  have K1 := Aside0.mk k1
  have K3 := Aside0.mk k3
  have H6 := Aside0.mk h6
  have H7 := Aside0.mk h7
  clear k0 k1 k2 k3 k4 k5 h6 h7 hg hB hxN hP hPl
  have HSUB := Aside0.mk (wrsub (n := n) (by omega))
  have hu55 := Tryz.underlying55
  have hu88 := Tryz.underlying88
  cases hdir : (rd_T55 l (P : Int)).f1 with
  | false =>
   rw [hdir] at K1 hrl
   rw [if_neg (by decide)] at hrl
   rw [hrl]
   clear hdir hrl
   go_enter Tryz.func41, Tryz.ntmps41
   go_wp2_with (go_at_call 59; go_loud (refine (node_calls gs ad c0 l nx x w HG.out (Kd.C_below hr0 HB.out) (Nat.le_trans hsz (by decide)) (isN_place HXN.out).1).mono ?_; rintro e w2 ⟨rfl, hb⟩; rw [← HPE.out]; have HB2 := Aside0.mk (below_step HB.out hb); have k1 := pw_cell_below HB2.out K1.out; have HBB := Aside0.mk hb; clear hb))
   go_ret
   exact ⟨rfl, HBB.out⟩
  | true =>
   rw [hdir] at K1 hrl
   rw [if_pos rfl] at hrl
   have HRL := Aside0.mk hrl
   clear hdir hrl
   have hleft : decide ((n : Int) < 0) = false := decide_eq_false (by omega)
   go_enter Tryz.func41, Tryz.ntmps41
   go_wp2_with (go_at_call 59; go_loud (refine (node_calls gs ad c0 l nx x w HG.out (Kd.C_below hr0 HB.out) (Nat.le_trans hsz (by decide)) (isN_place HXN.out).1).mono ?_; rintro e w2 ⟨rfl, hb⟩; rw [← HPE.out]; have HB2 := Aside0.mk (below_step HB.out hb); have k1 := pw_cell_below HB2.out K1.out; have k3 := pw_cell_below HB2.out K3.out; have HBB := Aside0.mk hb; have HG2 := Aside0.mk ((hb.block gs (blk_lt HG.out)).trans HG.out); clear hb))
   obtain ⟨es, hes⟩ : ∃ es, es = (rd_T55 l (P : Int)).f3 := ⟨_, rfl⟩
   rw [← hes] at H6 H7 HRL HE ⊢
   clear hes
   obtain ⟨N, hNN⟩ : ∃ N, N = es.length := ⟨_, rfl⟩
   have HNE := Aside0.mk hNN
   rw [← hNN] at H6 H7 ⊢
   clear hNN k3 k1
   go_loopw [8, 28] (fun v8 v28 W => ∃ (j d : Nat), j ≤ N ∧ v8 = .int .i64 (d : Int) ∧ v28 = .int .i64 (j : Int) ∧ Aside0 (es.foldl (fun d e => max d (1 + depthN l n e.f1)) 0 = (es.drop j).foldl (fun d e => max d (1 + depthN l n e.f1)) d) ∧ Aside0 (W.heap[gs]? = some (.cells #[.slice (some ad) l.length c0, .int .i64 nx] 32 (0, 0))) ∧ Aside0 (Below w.heap.size w W)) (fun _ v28 _ => N - (intOf v28).toNat)
   case atStart => exact ⟨0, 0, Nat.zero_le _, rfl, rfl, ⟨by rw [List.drop_zero]⟩, HG2, HBB⟩
   case round =>
    obtain ⟨j, d, hj, rfl, rfl, HF, HGW, HBW⟩ := hrel
    by_cases hlt : j < N
    ·have hd : decide ((j : Int) < (N : Int)) = true := decide_eq_true (Int.ofNat_lt.2 hlt)
     have hje : j < es.length := by rw [← HNE.out]; exact hlt
     obtain ⟨ae, hae, he0, he1⟩ := at_T88 (n := N) (Kd.C_below H7.out (below_step HB.out HBW.out)) (j : Int) (Int.natCast_nonneg _) (Int.ofNat_lt.2 hlt)
     subst hae
     rw [Int.toNat_natCast] at he0 he1
     obtain ⟨e, hee⟩ : ∃ e, e = rd_T88 es (j : Int) := ⟨_, rfl⟩
     rw [← hee] at he0 he1
     have hem : e = es[j] := by rw [hee]; unfold rd_T88; rw [Int.toNat_natCast, List.getD_eq_getElem?_getD, List.getElem?_eq_getElem hje]; rfl
     have HE1 := Aside0.mk (HE.out e (by rw [hem]; exact List.getElem_mem hje))
     have HDR := Aside0.mk (show es.drop j = e :: es.drop (j + 1) by rw [hem]; exact List.drop_eq_getElem_cons hje)
     clear hee hem hje
     have hsub := HSUB.out
     have hw1 := wr1 (d := depthN l n e.f1) (Nat.le_trans (depth_le l n e.f1) (Nat.le_of_succ_le hn8))
     have h0j : (0 : Int) ≤ (j : Int) := Int.natCast_nonneg _
     have hjN : (j : Int) < (N : Int) := Int.ofNat_lt.2 hlt
     go_wp2_with (go_at_call 41; go_loud (obtain ⟨W1, hW1⟩ : ∃ W, W = wr.alloc (.cells #[.string e.f0, .int .i64 e.f1] 88) := ⟨_, rfl⟩; rw [← hW1]; have hb1 : Below wr.heap.size wr W1 := (by rw [hW1]; exact below_alloc (Below.refl _ _) _); have HR1 := Aside0.mk (ih e.f1 W1 (Nat.le_of_succ_le hn8) HE1.out.2 ((hb1.block gs (blk_lt HGW.out)).trans HGW.out) (below_step (below_step HB.out HBW.out) hb1)); have HG1 := Aside0.mk ((hb1.block gs (blk_lt HGW.out)).trans HGW.out); have HB1 := Aside0.mk (below_step HBW.out hb1); clear hb1 hW1; refine HR1.out.mono ?_; rintro e_ w5 ⟨rfl, hB5⟩; have HG5 := Aside0.mk ((hB5.block gs (blk_lt HG1.out)).trans HG1.out); have HB5 := Aside0.mk (below_step HB1.out hB5); clear hB5))
     rw [wrN hlt H7.out.2.1, mxN]
     exact ⟨⟨j + 1, max d (1 + depthN l n e.f1), hlt, rfl, rfl, ⟨by rw [HF.out, HDR.out, List.foldl_cons]⟩, HG5, HB5⟩, lessN_ hlt⟩
    ·have hmN : j = N := Nat.le_antisymm hj (Nat.le_of_not_lt hlt)
     obtain rfl := hmN
     have hd : decide ((j : Int) < (j : Int)) = false := decide_eq_false (Int.lt_irrefl _)
     go_wp2
     go_ret
     refine ⟨?_, HBW.out⟩
     rw [HRL.out, HF.out, List.drop_eq_nil_of_le (by rw [← HNE.out]; exact Nat.le_refl _)]
     rfl
/-! #### may a node be, by itself -/
def mayN (cd cf : Int) (nd : S55) (links : Int) : Bool := if cd ≠ 0 ∨ cf ≠ 0 ∨ nd.f2 ≠ links then false else if nd.f1 = true then (if nd.f4.f0 ≠ 0 then false else if nd.f0 = 1 then links == 0 else links == 1) else (if 0 < nd.f3.length then false else if nd.f0 = 1 then false else decide (1 ≤ links) && decide (links ≤ 16))
set_option maxHeartbeats 8000000 in
set_option maxRecDepth 100000 in
theorem may_calls (k : Nat) (w0 : World) (ad : Addr) (l : List S55) (i : Nat) (hi : i < l.length) (hr0 : Kd.C k55 w0 (some ad) l.length l) (links cd cf : Int) (w : World) (hB : Below w0.heap.size w0 w) (h1 : dir_Check.f k (rd_T55 l (i : Int)).f3 = some cd) (h2 : file_Check.f k (rd_T55 l (i : Int)).f4.f0 (rd_T55 l (i : Int)).f4.f1 = some cf) :
  Calls Tryz.prog 39 #[.pointer (some (ad.add (i * 6))), .int .i64 links] w fun e w' => e = .returned (.bool (mayN cd cf (rd_T55 l (i : Int)) links)) ∧ Below w.heap.size w w' := by
 obtain ⟨ad', A3, c3, A5, c5, he, k0, k1, k2, k3, k4, k5, h6, h7, h8, h9⟩ := at_T55 (Kd.C_below hr0 hB) (i : Int) (Int.natCast_nonneg _) (Int.ofNat_lt.2 hi)
 obtain rfl := Option.some.inj he
 rw [Int.toNat_natCast] at k0 k1 k2 k3 k4 k5
 generalize rd_T55 l (i : Int) = nd at *
 have A1 := Aside0.mk h1
 have A2 := Aside0.mk h2
 have H6 := Aside0.mk h6
 have H7 := Aside0.mk h7
 have H8 := Aside0.mk h8
 have H9 := Aside0.mk h9
 have HB0 := Aside0.mk (Below.refl w.heap.size w)
 have K0 := Aside0.mk k0
 have K1 := Aside0.mk k1
 have K2 := Aside0.mk k2
 have K3 := Aside0.mk k3
 have K4 := Aside0.mk k4
 have K5 := Aside0.mk k5
 clear h1 h2 h6 h7 h8 h9 he k0 k1 k2 k4 k5 hB hr0 hi
 have hu55 := Tryz.underlying55
 have hu53 := Tryz.underlying53
 by_cases n1 : cd = 0
 case neg =>
  have n1a : (cd != 0) = true := bne_iff_ne.2 n1
  have n1b : (cd == 0) = false := beq_eq_false_iff_ne.2 n1
  go_enter Tryz.func39, Tryz.ntmps39
  go_wp2_with (first
   | (go_at_call 57; go_loud (refine (dir_Check.calls k A3 c3 nd.f3 _ w H7.out H6.out A1.out).mono ?_; rintro e w1 ⟨rfl, hb⟩; have k0_ := pw_cell_below hb K0.out; have k1_ := pw_cell_below hb K1.out; have k2_ := pw_cell_below hb K2.out; have k3_ := pw_cell_below hb K3.out; have k4_ := pw_cell_below hb K4.out; have k5_ := pw_cell_below hb K5.out; have HB1 := Aside0.mk hb; clear hb k3))
   | (go_at_call 58; go_loud (refine (file_Check.calls k nd.f4.f0 A5 c5 nd.f4.f1 _ w1 (Kd.C_below H9.out HB1.out) H8.out A2.out).mono ?_; rintro e w2 ⟨rfl, hb⟩; have hb2 := below_step HB1.out hb; have k0__ := pw_cell_below hb2 K0.out; have k1__ := pw_cell_below hb2 K1.out; have k2__ := pw_cell_below hb2 K2.out; have k3__ := pw_cell_below hb2 K3.out; have k4__ := pw_cell_below hb2 K4.out; have k5__ := pw_cell_below hb2 K5.out; have HB2 := Aside0.mk hb2; clear hb hb2 k0_ k1_ k2_ k3_ k4_ k5_)))
  go_ret
  exact ⟨by simp [mayN, n1], HB1.out⟩
 subst n1
 by_cases n2 : cf = 0
 case neg =>
  have n2a : (cf != 0) = true := bne_iff_ne.2 n2
  have n2b : (cf == 0) = false := beq_eq_false_iff_ne.2 n2
  go_enter Tryz.func39, Tryz.ntmps39
  go_wp2_with (first
   | (go_at_call 57; go_loud (refine (dir_Check.calls k A3 c3 nd.f3 _ w H7.out H6.out A1.out).mono ?_; rintro e w1 ⟨rfl, hb⟩; have k0_ := pw_cell_below hb K0.out; have k1_ := pw_cell_below hb K1.out; have k2_ := pw_cell_below hb K2.out; have k3_ := pw_cell_below hb K3.out; have k4_ := pw_cell_below hb K4.out; have k5_ := pw_cell_below hb K5.out; have HB1 := Aside0.mk hb; clear hb k3))
   | (go_at_call 58; go_loud (refine (file_Check.calls k nd.f4.f0 A5 c5 nd.f4.f1 _ w1 (Kd.C_below H9.out HB1.out) H8.out A2.out).mono ?_; rintro e w2 ⟨rfl, hb⟩; have hb2 := below_step HB1.out hb; have k0__ := pw_cell_below hb2 K0.out; have k1__ := pw_cell_below hb2 K1.out; have k2__ := pw_cell_below hb2 K2.out; have k3__ := pw_cell_below hb2 K3.out; have k4__ := pw_cell_below hb2 K4.out; have k5__ := pw_cell_below hb2 K5.out; have HB2 := Aside0.mk hb2; clear hb hb2 k0_ k1_ k2_ k3_ k4_ k5_)))
  go_ret
  exact ⟨by simp [mayN, n2], HB2.out⟩
 subst n2
 by_cases n3 : nd.f2 = links
 case neg =>
  have n3a : (nd.f2 != links) = true := bne_iff_ne.2 n3
  go_enter Tryz.func39, Tryz.ntmps39
  go_wp2_with (first
   | (go_at_call 57; go_loud (refine (dir_Check.calls k A3 c3 nd.f3 _ w H7.out H6.out A1.out).mono ?_; rintro e w1 ⟨rfl, hb⟩; have k0_ := pw_cell_below hb K0.out; have k1_ := pw_cell_below hb K1.out; have k2_ := pw_cell_below hb K2.out; have k3_ := pw_cell_below hb K3.out; have k4_ := pw_cell_below hb K4.out; have k5_ := pw_cell_below hb K5.out; have HB1 := Aside0.mk hb; clear hb k3))
   | (go_at_call 58; go_loud (refine (file_Check.calls k nd.f4.f0 A5 c5 nd.f4.f1 _ w1 (Kd.C_below H9.out HB1.out) H8.out A2.out).mono ?_; rintro e w2 ⟨rfl, hb⟩; have hb2 := below_step HB1.out hb; have k0__ := pw_cell_below hb2 K0.out; have k1__ := pw_cell_below hb2 K1.out; have k2__ := pw_cell_below hb2 K2.out; have k3__ := pw_cell_below hb2 K3.out; have k4__ := pw_cell_below hb2 K4.out; have k5__ := pw_cell_below hb2 K5.out; have HB2 := Aside0.mk hb2; clear hb hb2 k0_ k1_ k2_ k3_ k4_ k5_)))
  go_ret
  exact ⟨by simp [mayN, n3], HB2.out⟩
 have n3a : (nd.f2 != links) = false := by simp [n3]
 have N3 := Aside0.mk n3
 clear n3
 cases hd : nd.f1 with
 | true =>
  by_cases n4 : nd.f4.f0 = 0
  case neg =>
   have n4a : (nd.f4.f0 != 0) = true := bne_iff_ne.2 n4
   go_enter Tryz.func39, Tryz.ntmps39
   go_wp2_with (first
    | (go_at_call 57; go_loud (refine (dir_Check.calls k A3 c3 nd.f3 _ w H7.out H6.out A1.out).mono ?_; rintro e w1 ⟨rfl, hb⟩; have k0_ := pw_cell_below hb K0.out; have k1_ := pw_cell_below hb K1.out; have k2_ := pw_cell_below hb K2.out; have k3_ := pw_cell_below hb K3.out; have k4_ := pw_cell_below hb K4.out; have k5_ := pw_cell_below hb K5.out; have HB1 := Aside0.mk hb; clear hb k3))
    | (go_at_call 58; go_loud (refine (file_Check.calls k nd.f4.f0 A5 c5 nd.f4.f1 _ w1 (Kd.C_below H9.out HB1.out) H8.out A2.out).mono ?_; rintro e w2 ⟨rfl, hb⟩; have hb2 := below_step HB1.out hb; have k0__ := pw_cell_below hb2 K0.out; have k1__ := pw_cell_below hb2 K1.out; have k2__ := pw_cell_below hb2 K2.out; have k3__ := pw_cell_below hb2 K3.out; have k4__ := pw_cell_below hb2 K4.out; have k5__ := pw_cell_below hb2 K5.out; have HB2 := Aside0.mk hb2; clear hb hb2 k0_ k1_ k2_ k3_ k4_ k5_)))
   go_ret
   exact ⟨by simp [mayN, N3.out, hd, n4], HB2.out⟩
  have n4a : (nd.f4.f0 != 0) = false := by rw [n4]; rfl
  have N4 := Aside0.mk n4
  clear n4
  by_cases n5 : nd.f0 = 1
  case neg =>
   have n5a : (nd.f0 == 1) = false := beq_eq_false_iff_ne.2 n5
   have N5 := Aside0.mk n5
   clear n5
   go_enter Tryz.func39, Tryz.ntmps39
   go_wp2_with (first
    | (go_at_call 57; go_loud (refine (dir_Check.calls k A3 c3 nd.f3 _ w H7.out H6.out A1.out).mono ?_; rintro e w1 ⟨rfl, hb⟩; have k0_ := pw_cell_below hb K0.out; have k1_ := pw_cell_below hb K1.out; have k2_ := pw_cell_below hb K2.out; have k3_ := pw_cell_below hb K3.out; have k4_ := pw_cell_below hb K4.out; have k5_ := pw_cell_below hb K5.out; have HB1 := Aside0.mk hb; clear hb k3))
    | (go_at_call 58; go_loud (refine (file_Check.calls k nd.f4.f0 A5 c5 nd.f4.f1 _ w1 (Kd.C_below H9.out HB1.out) H8.out A2.out).mono ?_; rintro e w2 ⟨rfl, hb⟩; have hb2 := below_step HB1.out hb; have k0__ := pw_cell_below hb2 K0.out; have k1__ := pw_cell_below hb2 K1.out; have k2__ := pw_cell_below hb2 K2.out; have k3__ := pw_cell_below hb2 K3.out; have k4__ := pw_cell_below hb2 K4.out; have k5__ := pw_cell_below hb2 K5.out; have HB2 := Aside0.mk hb2; clear hb hb2 k0_ k1_ k2_ k3_ k4_ k5_)))
   go_ret
   exact ⟨by simp [mayN, N3.out, hd, N4.out, N5.out], HB2.out⟩
  have n5a : (nd.f0 == 1) = true := by rw [n5]; rfl
  have N5 := Aside0.mk n5
  clear n5
  go_enter Tryz.func39, Tryz.ntmps39
  go_wp2_with (first
   | (go_at_call 57; go_loud (refine (dir_Check.calls k A3 c3 nd.f3 _ w H7.out H6.out A1.out).mono ?_; rintro e w1 ⟨rfl, hb⟩; have k0_ := pw_cell_below hb K0.out; have k1_ := pw_cell_below hb K1.out; have k2_ := pw_cell_below hb K2.out; have k3_ := pw_cell_below hb K3.out; have k4_ := pw_cell_below hb K4.out; have k5_ := pw_cell_below hb K5.out; have HB1 := Aside0.mk hb; clear hb k3))
   | (go_at_call 58; go_loud (refine (file_Check.calls k nd.f4.f0 A5 c5 nd.f4.f1 _ w1 (Kd.C_below H9.out HB1.out) H8.out A2.out).mono ?_; rintro e w2 ⟨rfl, hb⟩; have hb2 := below_step HB1.out hb; have k0__ := pw_cell_below hb2 K0.out; have k1__ := pw_cell_below hb2 K1.out; have k2__ := pw_cell_below hb2 K2.out; have k3__ := pw_cell_below hb2 K3.out; have k4__ := pw_cell_below hb2 K4.out; have k5__ := pw_cell_below hb2 K5.out; have HB2 := Aside0.mk hb2; clear hb hb2 k0_ k1_ k2_ k3_ k4_ k5_)))
  go_ret
  exact ⟨by simp [mayN, N3.out, hd, N4.out, N5.out], HB2.out⟩
 | false =>
  by_cases n6 : 0 < nd.f3.length
  case neg =>
   have n6a : decide ((nd.f3.length : Int) > 0) = false := decide_eq_false (by omega)
   by_cases n5 : nd.f0 = 1
   case neg =>
    have n5a : (nd.f0 == 1) = false := beq_eq_false_iff_ne.2 n5
    have N5 := Aside0.mk n5
    clear n5
    by_cases n7 : 1 ≤ links
    case neg =>
     have n7a : decide (links ≥ 1) = false := decide_eq_false n7
     have N7 := Aside0.mk n7
     clear n7
     go_enter Tryz.func39, Tryz.ntmps39
     go_wp2_with (first
      | (go_at_call 57; go_loud (refine (dir_Check.calls k A3 c3 nd.f3 _ w H7.out H6.out A1.out).mono ?_; rintro e w1 ⟨rfl, hb⟩; have k0_ := pw_cell_below hb K0.out; have k1_ := pw_cell_below hb K1.out; have k2_ := pw_cell_below hb K2.out; have k3_ := pw_cell_below hb K3.out; have k4_ := pw_cell_below hb K4.out; have k5_ := pw_cell_below hb K5.out; have HB1 := Aside0.mk hb; clear hb k3))
      | (go_at_call 58; go_loud (refine (file_Check.calls k nd.f4.f0 A5 c5 nd.f4.f1 _ w1 (Kd.C_below H9.out HB1.out) H8.out A2.out).mono ?_; rintro e w2 ⟨rfl, hb⟩; have hb2 := below_step HB1.out hb; have k0__ := pw_cell_below hb2 K0.out; have k1__ := pw_cell_below hb2 K1.out; have k2__ := pw_cell_below hb2 K2.out; have k3__ := pw_cell_below hb2 K3.out; have k4__ := pw_cell_below hb2 K4.out; have k5__ := pw_cell_below hb2 K5.out; have HB2 := Aside0.mk hb2; clear hb hb2 k0_ k1_ k2_ k3_ k4_ k5_)))
     go_ret
     exact ⟨by simp [mayN, N3.out, hd, N5.out, n6]; intro h; exact absurd h (Int.not_le.2 N7.out), HB2.out⟩
    have n7a : decide (links ≥ 1) = true := decide_eq_true n7
    have N7 := Aside0.mk n7
    clear n7
    go_enter Tryz.func39, Tryz.ntmps39
    go_wp2_with (first
     | (go_at_call 57; go_loud (refine (dir_Check.calls k A3 c3 nd.f3 _ w H7.out H6.out A1.out).mono ?_; rintro e w1 ⟨rfl, hb⟩; have k0_ := pw_cell_below hb K0.out; have k1_ := pw_cell_below hb K1.out; have k2_ := pw_cell_below hb K2.out; have k3_ := pw_cell_below hb K3.out; have k4_ := pw_cell_below hb K4.out; have k5_ := pw_cell_below hb K5.out; have HB1 := Aside0.mk hb; clear hb k3))
     | (go_at_call 58; go_loud (refine (file_Check.calls k nd.f4.f0 A5 c5 nd.f4.f1 _ w1 (Kd.C_below H9.out HB1.out) H8.out A2.out).mono ?_; rintro e w2 ⟨rfl, hb⟩; have hb2 := below_step HB1.out hb; have k0__ := pw_cell_below hb2 K0.out; have k1__ := pw_cell_below hb2 K1.out; have k2__ := pw_cell_below hb2 K2.out; have k3__ := pw_cell_below hb2 K3.out; have k4__ := pw_cell_below hb2 K4.out; have k5__ := pw_cell_below hb2 K5.out; have HB2 := Aside0.mk hb2; clear hb hb2 k0_ k1_ k2_ k3_ k4_ k5_)))
    go_ret
    exact ⟨by simp [mayN, N3.out, hd, N5.out, n6, N7.out], HB2.out⟩
   have n5a : (nd.f0 == 1) = true := by rw [n5]; rfl
   have N5 := Aside0.mk n5
   clear n5
   go_enter Tryz.func39, Tryz.ntmps39
   go_wp2_with (first
    | (go_at_call 57; go_loud (refine (dir_Check.calls k A3 c3 nd.f3 _ w H7.out H6.out A1.out).mono ?_; rintro e w1 ⟨rfl, hb⟩; have k0_ := pw_cell_below hb K0.out; have k1_ := pw_cell_below hb K1.out; have k2_ := pw_cell_below hb K2.out; have k3_ := pw_cell_below hb K3.out; have k4_ := pw_cell_below hb K4.out; have k5_ := pw_cell_below hb K5.out; have HB1 := Aside0.mk hb; clear hb k3))
    | (go_at_call 58; go_loud (refine (file_Check.calls k nd.f4.f0 A5 c5 nd.f4.f1 _ w1 (Kd.C_below H9.out HB1.out) H8.out A2.out).mono ?_; rintro e w2 ⟨rfl, hb⟩; have hb2 := below_step HB1.out hb; have k0__ := pw_cell_below hb2 K0.out; have k1__ := pw_cell_below hb2 K1.out; have k2__ := pw_cell_below hb2 K2.out; have k3__ := pw_cell_below hb2 K3.out; have k4__ := pw_cell_below hb2 K4.out; have k5__ := pw_cell_below hb2 K5.out; have HB2 := Aside0.mk hb2; clear hb hb2 k0_ k1_ k2_ k3_ k4_ k5_)))
   go_ret
   exact ⟨by simp [mayN, N3.out, hd, N5.out, n6], HB2.out⟩
  have n6a : decide ((nd.f3.length : Int) > 0) = true := decide_eq_true (by omega)
  go_enter Tryz.func39, Tryz.ntmps39
  go_wp2_with (first
   | (go_at_call 57; go_loud (refine (dir_Check.calls k A3 c3 nd.f3 _ w H7.out H6.out A1.out).mono ?_; rintro e w1 ⟨rfl, hb⟩; have k0_ := pw_cell_below hb K0.out; have k1_ := pw_cell_below hb K1.out; have k2_ := pw_cell_below hb K2.out; have k3_ := pw_cell_below hb K3.out; have k4_ := pw_cell_below hb K4.out; have k5_ := pw_cell_below hb K5.out; have HB1 := Aside0.mk hb; clear hb k3))
   | (go_at_call 58; go_loud (refine (file_Check.calls k nd.f4.f0 A5 c5 nd.f4.f1 _ w1 (Kd.C_below H9.out HB1.out) H8.out A2.out).mono ?_; rintro e w2 ⟨rfl, hb⟩; have hb2 := below_step HB1.out hb; have k0__ := pw_cell_below hb2 K0.out; have k1__ := pw_cell_below hb2 K1.out; have k2__ := pw_cell_below hb2 K2.out; have k3__ := pw_cell_below hb2 K3.out; have k4__ := pw_cell_below hb2 K4.out; have k5__ := pw_cell_below hb2 K5.out; have HB2 := Aside0.mk hb2; clear hb hb2 k0_ k1_ k2_ k3_ k4_ k5_)))
  go_ret
  exact ⟨by simp [mayN, N3.out, hd, n6], HB2.out⟩
/-! #### what a state is refused for at once -/
theorem add0 (ad : Addr) : ad.add 0 = ad := by cases ad; rfl
set_option maxHeartbeats 8000000 in
set_option maxRecDepth 100000 in
theorem check_bad1 (A0 : Option Addr) (c0 : Nat) (l : List S55) (nx : Int) (w : World) (h : nx ≤ 1) : Calls Tryz.prog 17 #[.agg #[.slice A0 l.length c0, .int .i64 nx]] w fun e w' => e = .returned (.int .i64 9) ∧ Below w.heap.size w w' := by
 have hd1 : decide (nx ≤ 1) = true := decide_eq_true h
 clear h
 have hu32 := Tryz.underlying32
 go_enter Tryz.func17, Tryz.ntmps17
 go_wp2
 go_ret
 exact ⟨rfl, below_alloc (Below.refl _ _) _⟩
set_option maxHeartbeats 8000000 in
set_option maxRecDepth 100000 in
theorem check_bad2 (A0 : Option Addr) (c0 : Nat) (l : List S55) (nx : Int) (w : World) (h1 : ¬ nx ≤ 1) (h : nx > 2147483647) : Calls Tryz.prog 17 #[.agg #[.slice A0 l.length c0, .int .i64 nx]] w fun e w' => e = .returned (.int .i64 9) ∧ Below w.heap.size w w' := by
 have hd1 : decide (nx ≤ 1) = false := decide_eq_false h1
 have hd2 : decide (nx > 2147483647) = true := decide_eq_true h
 clear h h1
 have hu32 := Tryz.underlying32
 go_enter Tryz.func17, Tryz.ntmps17
 go_wp2
 go_ret
 exact ⟨rfl, below_alloc (Below.refl _ _) _⟩
set_option maxHeartbeats 8000000 in
set_option maxRecDepth 100000 in
theorem check_bad3 (A0 : Option Addr) (c0 : Nat) (l : List S55) (nx : Int) (w : World) (h1 : ¬ nx ≤ 1) (h2 : ¬ nx > 2147483647) (h : l.length = 0) : Calls Tryz.prog 17 #[.agg #[.slice A0 l.length c0, .int .i64 nx]] w fun e w' => e = .returned (.int .i64 9) ∧ Below w.heap.size w w' := by
 have hd1 : decide (nx ≤ 1) = false := decide_eq_false h1
 have hd2 : decide (nx > 2147483647) = false := decide_eq_false h2
 obtain ⟨n, hn⟩ : ∃ n, n = l.length := ⟨_, rfl⟩
 rw [← hn] at h ⊢
 subst h
 clear h1 h2 hn
 have hu32 := Tryz.underlying32
 go_enter Tryz.func17, Tryz.ntmps17
 go_wp2
 go_ret
 exact ⟨rfl, below_alloc (Below.refl _ _) _⟩
set_option maxHeartbeats 8000000 in
set_option maxRecDepth 100000 in
theorem check_bad4 (A0 : Option Addr) (c0 : Nat) (l : List S55) (nx : Int) (w : World) (h1 : ¬ nx ≤ 1) (h2 : ¬ nx > 2147483647) (h : l.length > 128) : Calls Tryz.prog 17 #[.agg #[.slice A0 l.length c0, .int .i64 nx]] w fun e w' => e = .returned (.int .i64 9) ∧ Below w.heap.size w w' := by
 have hd1 : decide (nx ≤ 1) = false := decide_eq_false h1
 have hd2 : decide (nx > 2147483647) = false := decide_eq_false h2
 obtain ⟨n, hn⟩ : ∃ n, n = l.length := ⟨_, rfl⟩
 rw [← hn] at h ⊢
 have hd3 : (((n : Nat) : Int) == 0) = false := beq_eq_false_iff_ne.2 (by omega)
 have hd4 : decide ((n : Int) > 128) = true := decide_eq_true (by omega)
 clear h1 h2 hn h
 have hu32 := Tryz.underlying32
 go_enter Tryz.func17, Tryz.ntmps17
 go_wp2
 go_ret
 exact ⟨rfl, below_alloc (Below.refl _ _) _⟩
set_option maxHeartbeats 8000000 in
set_option maxRecDepth 100000 in
theorem check_bad5 (A0 : Option Addr) (c0 : Nat) (l : List S55) (nx : Int) (w : World) (hr0 : Kd.C k55 w A0 l.length l) (h1 : ¬ nx ≤ 1) (h2 : ¬ nx > 2147483647) (h3 : l.length ≠ 0) (h4 : ¬ l.length > 128) (h : (rd_T55 l 0).f0 ≠ 1) : Calls Tryz.prog 17 #[.agg #[.slice A0 l.length c0, .int .i64 nx]] w fun e w' => e = .returned (.int .i64 9) ∧ Below w.heap.size w w' := by
 have hd1 : decide (nx ≤ 1) = false := decide_eq_false h1
 have hd2 : decide (nx > 2147483647) = false := decide_eq_false h2
 obtain ⟨n, hn⟩ : ∃ n, n = l.length := ⟨_, rfl⟩
 have hp : (0 : Int) < (n : Int) := by omega
 obtain ⟨ad, A3, c3, A5, c5, he, k0, _⟩ := at_T55 (Kd.C_below hr0 (below_alloc (Below.refl _ _) (.cells #[.slice A0 l.length c0, .int .i64 nx] 32))) 0 (Int.le_refl _) (by rw [← hn]; exact hp)
 subst he
 rw [show (0 : Int).toNat * 6 = 0 from rfl, add0] at k0
 rw [← hn] at k0 h3 h4 ⊢
 have hd3 : (((n : Nat) : Int) == 0) = false := beq_eq_false_iff_ne.2 (by omega)
 have hd4 : decide ((n : Int) > 128) = false := decide_eq_false (by omega)
 have hd5 : ((rd_T55 l 0).f0 != 1) = true := bne_iff_ne.2 h
 generalize (rd_T55 l 0).f0 = x at *
 have h0n : (0 : Int) < (n : Int) := hp
 clear h1 h2 hn h hr0 h3 h4
 have hu32 := Tryz.underlying32
 have hu55 := Tryz.underlying55
 go_enter Tryz.func17, Tryz.ntmps17
 go_wp2
 go_ret
 exact ⟨rfl, below_alloc (Below.refl _ _) _⟩
/-! #### may a state be -/
def okN (l : List S55) (nx : Int) (j : Nat) : Bool := decide ((rd_T55 l (j : Int)).f0 < nx) && (decide (j = 0) || decide ((rd_T55 l ((j - 1 : Nat) : Int)).f0 < (rd_T55 l (j : Int)).f0)) && (rd_T55 l (j : Int)).f3.all (fun e => isN l e.f1)
def addL (Z : Int → Int) (e : S88) : Int → Int := fun x => if x = e.f1 then wrap64 (Z x + 1) else Z x
def linksN (l : List S55) : Int → Int := (l.flatMap (·.f3)).foldl addL (fun _ => 0)
def maysN (k : Nat) (Z : Int → Int) : List S55 → Option Bool
 | [] => some true
 | nd :: r => (dir_Check.f k nd.f3).bind fun cd => (file_Check.f k nd.f4.f0 nd.f4.f1).bind fun cf => if mayN cd cf nd (Z nd.f0) = true then maysN k Z r else some false
def wfN (l : List S55) : Bool := l.all fun nd => (Lit.int .i64 nd.f0).wf && nd.f3.all fun e => (Lit.int .i64 e.f1).wf
def endN (l : List S55) : Int := if (reachN l 8 1 []).length = l.length ∧ depthN l 9 1 ≤ 8 then 0 else 9
def restN (k : Nat) (l : List S55) (nx : Int) : Option Int :=
 if (List.range l.length).all (okN l nx) = true then (if isN l 1 = true then (maysN k (linksN l) l).bind fun b => some (if b = true then endN l else 9) else none) else some 9
def fs_Check.f (k : Nat) (l : List S55) (nx : Int) : Option Int :=
 if nx ≤ 1 then some 9 else if nx > 2147483647 then some 9 else if l.length = 0 then some 9 else if l.length > 128 then some 9 else if (rd_T55 l 0).f0 ≠ 1 then some 9 else
 if wfN l = true then restN k l nx else none
theorem addV (Z : Int → Int) (e : S88) : putQ (fun x => .int .i64 (Z x)) e.f1 (.int .i64 (wrap64 (Z e.f1 + 1))) = fun x => .int .i64 (addL Z e x) := by
 funext x; unfold putQ addL; by_cases h : x = e.f1
 ·subst h; rw [if_pos rfl, if_pos rfl]
 ·rw [if_neg h, if_neg h]
theorem zero3 (W : World) : (zeroValue 3).run Tryz.prog W = .ok (.int .i64 0) W := by kernel_rfl
theorem rest_bad {k : Nat} {l : List S55} {nx r : Int} (h : restN k l nx = some r) {i : Nat} (hi : i < l.length) (hk : okN l nx i = false) : r = 9 := by
 unfold restN at h
 rw [if_neg] at h
 ·exact (Option.some.inj h).symm
 ·intro hc
  have := List.all_eq_true.1 hc i (List.mem_range.2 hi)
  rw [hk] at this; cases this
theorem ok_a {l : List S55} {nx : Int} {i : Nat} (h : (rd_T55 l (i : Int)).f0 ≥ nx) : okN l nx i = false := by
 unfold okN; rw [decide_eq_false (Int.not_lt.2 h)]; rfl
theorem ok_c {l : List S55} {nx : Int} {i : Nat} (h0 : i ≠ 0) (h : (rd_T55 l (i : Int)).f0 ≤ (rd_T55 l ((i - 1 : Nat) : Int)).f0) : okN l nx i = false := by
 unfold okN; rw [decide_eq_false h0, decide_eq_false (Int.not_lt.2 h)]; simp
theorem ok_e {l : List S55} {nx : Int} {i : Nat} {e : S88} (he : e ∈ (rd_T55 l (i : Int)).f3) (h : isN l e.f1 = false) : okN l nx i = false := by
 unfold okN; rw [show (rd_T55 l (i : Int)).f3.all (fun e => isN l e.f1) = false from List.all_eq_false.2 ⟨e, he, by rw [h]; decide⟩]; simp
theorem ok_good {l : List S55} {nx : Int} {i : Nat} (h : ¬ (rd_T55 l (i : Int)).f0 ≥ nx) (h2 : i ≠ 0 → (rd_T55 l ((i - 1 : Nat) : Int)).f0 < (rd_T55 l (i : Int)).f0) (h3 : ∀ e ∈ (rd_T55 l (i : Int)).f3, isN l e.f1 = true) : okN l nx i = true := by
 unfold okN; rw [decide_eq_true (Int.not_le.1 h), List.all_eq_true.2 h3]
 by_cases h0 : i = 0
 ·rw [decide_eq_true h0]; rfl
 ·rw [decide_eq_true (h2 h0)]; simp
theorem wf_nd {l : List S55} (h : wfN l = true) {i : Nat} (hi : i < l.length) : (Lit.int .i64 (rd_T55 l (i : Int)).f0).wf = true ∧ ∀ e ∈ (rd_T55 l (i : Int)).f3, (Lit.int .i64 e.f1).wf = true := by
 have := List.all_eq_true.1 h _ (rd55_mem hi)
 rw [Bool.and_eq_true] at this
 exact ⟨this.1, fun e he => List.all_eq_true.1 this.2 e he⟩
theorem drop_map {l : List S55} {i : Nat} (hi : i < l.length) : (l.drop i).flatMap (·.f3) = (rd_T55 l (i : Int)).f3 ++ (l.drop (i + 1)).flatMap (·.f3) := by
 have e : rd_T55 l (i : Int) = l[i] := by unfold rd_T55; rw [Int.toNat_natCast, List.getD_eq_getElem?_getD, List.getElem?_eq_getElem hi]; rfl
 rw [e, List.drop_eq_getElem_cons hi, List.flatMap_cons]
theorem wrpred {i : Nat} (h : i ≠ 0) (h2 : i ≤ 128) : wrap64 ((i : Int) - 1) = ((i - 1 : Nat) : Int) := by unfold wrap64; omega
set_option maxHeartbeats 8000000 in
set_option maxRecDepth 100000 in
theorem check_main (k : Nat) (ad : Addr) (c0 : Nat) (l : List S55) (nx : Int) (r : Int) (w : World) (hr0 : Kd.C k55 w (some ad) l.length l) (h1 : ¬ nx ≤ 1) (h2 : ¬ nx > 2147483647) (h3 : l.length ≠ 0) (h4 : l.length ≤ 128) (h5 : (rd_T55 l 0).f0 = 1) (hwf : wfN l = true) (h : restN k l nx = some r) :
  Calls Tryz.prog 17 #[.agg #[.slice (some ad) l.length c0, .int .i64 nx]] w fun e w' => e = .returned (.int .i64 r) ∧ Below w.heap.size w w' := by
 have hd1 : decide (nx ≤ 1) = false := decide_eq_false h1
 have hd2 : decide (nx > 2147483647) = false := decide_eq_false h2
 have HR0 := Aside0.mk hr0
 have HRR := Aside0.mk h
 have HWF := Aside0.mk hwf
 obtain ⟨n, hn⟩ : ∃ n, n = l.length := ⟨_, rfl⟩
 have HN := Aside0.mk hn
 obtain ⟨gs, hgs⟩ : ∃ g, g = w.heap.size := ⟨_, rfl⟩
 have HGS := Aside0.mk hgs
 obtain ⟨W0, hW0⟩ : ∃ W, W = w.alloc (.cells #[.slice (some ad) n c0, .int .i64 nx] 32) := ⟨_, rfl⟩
 have HW0 := Aside0.mk hW0
 have hB0 : Below w.heap.size w W0 := by rw [hW0]; exact below_alloc (Below.refl _ _) _
 have HB0 := Aside0.mk hB0
 have hsz0 : W0.heap.size = gs + 1 := by rw [hW0, hgs]; simp
 have HSZ0 := Aside0.mk hsz0
 have HG0 : Aside0 (W0.heap[gs]? = some (.cells #[.slice (some ad) n c0, .int .i64 nx] 32 (0, 0))) := ⟨by rw [hW0, hgs]; exact (MapKept.heap_alloc _ _).1⟩
 obtain ⟨ad', A3, c3, A5, c5, he, k0, hrest_⟩ := at_T55 (Kd.C_below hr0 (below_alloc (Below.refl _ _) (.cells #[.slice (some ad) n c0, .int .i64 nx] 32))) 0 (Int.le_refl _) (by omega)
 obtain rfl := Option.some.inj he
 rw [show (0 : Int).toNat * 6 = 0 from rfl, add0, h5] at k0
 rw [← hn] at h3 h4 ⊢
 have H4 := Aside0.mk h4
 have hd3 : (((n : Nat) : Int) == 0) = false := beq_eq_false_iff_ne.2 (by omega)
 have hd4 : decide ((n : Int) > 128) = false := decide_eq_false (by omega)
 have h0n : (0 : Int) < (n : Int) := by omega
 clear hrest_
 clear h1 h2 h3 h4 hn hr0 h hwf he hW0 hB0 hgs h5 hsz0
 have hu32 := Tryz.underlying32
 have hu55 := Tryz.underlying55
 have hu86 := Tryz.underlying86
 have hmk : (Instr.makeMap 86 none).run Tryz.prog (w.alloc (.cells #[.slice (some ad) n c0, .int .i64 nx] 32)) = .ok (.map (some (w.alloc (.cells #[.slice (some ad) n c0, .int .i64 nx] 32)).heap.size)) ((w.alloc (.cells #[.slice (some ad) n c0, .int .i64 nx] 32)).alloc (.map #[] 0)) := run_makeMap ..
 go_enter Tryz.func17, Tryz.ntmps17
 go_wp2
 obtain ⟨mb, hmb⟩ : ∃ g, g = w.heap.size + 1 := ⟨_, rfl⟩
 have HMBE := Aside0.mk hmb
 rw [← hmb, ← HGS.out]
 rw [← HW0.out]
 have HM0 : Aside0 (Mq (W0.alloc (.map #[] 0)) mb [] (.int .i64 0) (fun _ => .int .i64 0)) := ⟨by
  have := Mq.made W0 (.int .i64 0)
  rwa [show W0.heap.size = mb by rw [HSZ0.out, hmb, HGS.out]] at this⟩
 have hW1b := below_alloc HB0.out (.map #[] 0)
 have hW1g : (W0.alloc (.map #[] 0)).heap[gs]? = some (.cells #[.slice (some ad) n c0, .int .i64 nx] 32 (0, 0)) := ((below_alloc (Below.refl W0.heap.size W0) (.map #[] 0)).block gs (blk_lt HG0.out)).trans HG0.out
 generalize W0.alloc (.map #[] 0) = W1 at *
 have HB1 := Aside0.mk hW1b
 have HG1 := Aside0.mk hW1g
 clear hW1b hW1g hmb HB0 HG0 HW0 HSZ0 hmk hd1 hd2 hd3 hd4 k0 h0n
 clear W0
 go_loopw [45] (fun v45 W => ∃ (i : Nat) (Z : Int → Int) (L : List Int), i ≤ n ∧ v45 = .int .i64 (i : Int) ∧ Aside0 (∀ j, j < i → okN l nx j = true) ∧ Aside0 (linksN l = ((l.drop i).flatMap (·.f3)).foldl addL Z) ∧ Aside0 (Ln l L) ∧ Aside0 (Mq W mb L (.int .i64 0) (fun x => .int .i64 (Z x))) ∧ Aside0 (W.heap[gs]? = some (.cells #[.slice (some ad) n c0, .int .i64 nx] 32 (0, 0))) ∧ Aside0 (Below w.heap.size w W)) (fun v45 _ => n - (intOf v45).toNat)
 case atStart => exact ⟨0, fun _ => 0, [], Nat.zero_le _, rfl, ⟨fun _ h => absurd h (Nat.not_lt_zero _)⟩, ⟨by rw [List.drop_zero]; rfl⟩, ⟨Ln.nil l⟩, HM0, HG1, HB1⟩
 case round =>
  obtain ⟨i, Z, L, hi, rfl, HOK, HLK, HLN, HMQ, HGW, HBW⟩ := hrel
  by_cases hlt : i < n
  ·have hd : decide ((i : Int) < (n : Int)) = true := decide_eq_true (Int.ofNat_lt.2 hlt)
   obtain ⟨ad', A3, c3, A5, c5, he, k0, k1, k2, k3, k4, k5, h6, h7, h8, h9⟩ := at_T55 HR0.out (i : Int) (Int.natCast_nonneg _) (by rw [← HN.out]; exact Int.ofNat_lt.2 hlt)
   obtain rfl := Option.some.inj he
   rw [Int.toNat_natCast] at k0 k1 k2 k3 k4 k5
   obtain ⟨nd, hnd⟩ : ∃ nd, nd = rd_T55 l (i : Int) := ⟨_, rfl⟩
   have HND := Aside0.mk hnd
   rw [← hnd] at k0 k1 k2 k3 k4 k5 h6 h7 h8 h9
   have HC3 := Aside0.mk h7
   replace k0 := pw_cell_below HBW.out k0
   replace k1 := pw_cell_below HBW.out k1
   replace k2 := pw_cell_below HBW.out k2
   replace k3 := pw_cell_below HBW.out k3
   replace k4 := pw_cell_below HBW.out k4
   replace k5 := pw_cell_below HBW.out k5
   have hgw0 := blk_cell HGW.out 0
   have hgw1 := blk_cell HGW.out 1
   have h0i : (0 : Int) ≤ (i : Int) := Int.natCast_nonneg _
   have hin : (i : Int) < (n : Int) := Int.ofNat_lt.2 hlt
   have HLT := Aside0.mk hlt
   clear hnd he h6 h7 h8 h9
   by_cases hq : nd.f0 ≥ nx
   ·have hq1 : decide (nd.f0 ≥ nx) = true := decide_eq_true hq
    go_wp2
    generalize hW2 : wr.alloc (Obj.cells #[Value.int IntKind.i64 nd.f0, Value.bool nd.f1, Value.int IntKind.i64 nd.f2, Value.slice A3 nd.f3.length c3, Value.int IntKind.i64 nd.f4.f0, Value.slice A5 nd.f4.f1.length c5] 55) = W2
    have HB2 : Aside0 (Below wr.heap.size wr W2) := ⟨by rw [← hW2]; exact below_alloc (Below.refl _ _) _⟩
    have HGN : Aside0 (W2.heap[wr.heap.size]? = some (.cells #[.int .i64 nd.f0, .bool nd.f1, .int .i64 nd.f2, .slice A3 nd.f3.length c3, .int .i64 nd.f4.f0, .slice A5 nd.f4.f1.length c5] 55 (0, 0))) := ⟨by rw [← hW2]; exact (MapKept.heap_alloc _ _).1⟩
    have HG2 := Aside0.mk ((HB2.out.block gs (blk_lt HGW.out)).trans HGW.out)
    have HM2 := Aside0.mk (HMQ.out.below HB2.out)
    have hn0 := blk_cell HGN.out 0
    have hn3 := blk_cell HGN.out 3
    have hs0 := blk_cell HG2.out 0
    have hs1 := blk_cell HG2.out 1
    clear hW2 hgw0 hgw1
    go_quiet (fail)
    go_wp2
    go_ret
    rw [rest_bad HRR.out (i := i) (by rw [← HN.out]; exact HLT.out) (ok_a (by rw [← HND.out]; exact hq))]
    exact ⟨rfl, pw_below_drewN (below_step HBW.out HB2.out) _⟩
   have hq1 : decide (nd.f0 ≥ nx) = false := decide_eq_false hq
   have HQ := Aside0.mk hq
   clear hq
   by_cases hi0 : i = 0
   ·have hi1 : decide ((i : Int) > 0) = false := decide_eq_false (by omega)
    have hi1b : decide (0 < i) = false := decide_eq_false (by omega)
    have hi1c : (0 < i) = False := eq_false (by omega)
    have HI0 := Aside0.mk hi0
    clear hi0
    go_wp2
    generalize hW2 : wr.alloc (Obj.cells #[Value.int IntKind.i64 nd.f0, Value.bool nd.f1, Value.int IntKind.i64 nd.f2, Value.slice A3 nd.f3.length c3, Value.int IntKind.i64 nd.f4.f0, Value.slice A5 nd.f4.f1.length c5] 55) = W2
    have HB2 : Aside0 (Below wr.heap.size wr W2) := ⟨by rw [← hW2]; exact below_alloc (Below.refl _ _) _⟩
    have HGN : Aside0 (W2.heap[wr.heap.size]? = some (.cells #[.int .i64 nd.f0, .bool nd.f1, .int .i64 nd.f2, .slice A3 nd.f3.length c3, .int .i64 nd.f4.f0, .slice A5 nd.f4.f1.length c5] 55 (0, 0))) := ⟨by rw [← hW2]; exact (MapKept.heap_alloc _ _).1⟩
    have HG2 := Aside0.mk ((HB2.out.block gs (blk_lt HGW.out)).trans HGW.out)
    have HM2 := Aside0.mk (HMQ.out.below HB2.out)
    have hn0 := blk_cell HGN.out 0
    have hn3 := blk_cell HGN.out 3
    have hs0 := blk_cell HG2.out 0
    have hs1 := blk_cell HG2.out 1
    clear hW2 hgw0 hgw1
    go_quiet (fail)
    clear hi1 hi1b hi1c
    go_wp2
    obtain ⟨es, hes⟩ : ∃ es, es = nd.f3 := ⟨_, rfl⟩
    have HES := Aside0.mk hes
    have HWE : Aside0 (∀ e ∈ es, (Lit.int .i64 e.f1).wf = true) := ⟨by rw [hes, HND.out]; exact (wf_nd HWF.out (by rw [← HN.out]; exact HLT.out)).2⟩
    have HLK2 : Aside0 (linksN l = (es ++ (l.drop (i + 1)).flatMap (·.f3)).foldl addL Z) := ⟨by rw [hes, HND.out, ← drop_map (by rw [← HN.out]; exact HLT.out)]; exact HLK.out⟩
    rw [← hes]
    obtain ⟨N, hNN⟩ : ∃ N, N = es.length := ⟨_, rfl⟩
    have HNE := Aside0.mk hNN
    have H7 : Aside0 (Kd.C k88 w A3 N es) := ⟨by rw [hNN, hes]; exact HC3.out⟩
    have HWB2 := Aside0.mk (below_step HBW.out HB2.out)
    rw [← hNN]
    clear hes hNN hn0 hn3 hs0 hs1
    go_loopw [74] (fun v74 W => ∃ (j : Nat) (Z2 : Int → Int) (L2 : List Int), j ≤ N ∧ v74 = .int .i64 (j : Int) ∧ Aside0 (linksN l = (es.drop j ++ (l.drop (i + 1)).flatMap (·.f3)).foldl addL Z2) ∧ Aside0 (∀ m, m < j → isN l (rd_T88 es (m : Int)).f1 = true) ∧ Aside0 (Ln l L2) ∧ Aside0 (Mq W mb L2 (.int .i64 0) (fun x => .int .i64 (Z2 x))) ∧ Aside0 (W.heap[gs]? = some (.cells #[.slice (some ad) n c0, .int .i64 nx] 32 (0, 0))) ∧ Aside0 (Below w.heap.size w W)) (fun v74 _ => N - (intOf v74).toNat)
    case atStart => exact ⟨0, Z, L, Nat.zero_le _, rfl, ⟨by rw [List.drop_zero]; exact HLK2.out⟩, ⟨fun _ h => absurd h (Nat.not_lt_zero _)⟩, HLN, ⟨HM2.out⟩, ⟨HG2.out⟩, ⟨pw_below_drewN HWB2.out _⟩⟩
    case round =>
     obtain ⟨j, Z2, L2, hj, rfl, HLJ, HOJ, HLN2, HMQ2, HGV, HBV⟩ := hrel
     by_cases hjl : j < N
     ·have hdj : decide ((j : Int) < (N : Int)) = true := decide_eq_true (Int.ofNat_lt.2 hjl)
      have hje : j < es.length := by rw [← HNE.out]; exact hjl
      obtain ⟨ae, hae, he0, he1⟩ := at_T88 (n := N) (Kd.C_below H7.out HBV.out) (j : Int) (Int.natCast_nonneg _) (Int.ofNat_lt.2 hjl)
      subst hae
      rw [Int.toNat_natCast] at he0 he1
      obtain ⟨e, hee⟩ : ∃ e, e = rd_T88 es (j : Int) := ⟨_, rfl⟩
      have HEE := Aside0.mk hee
      rw [← hee] at he0 he1
      have hem : e = es[j] := by rw [hee]; unfold rd_T88; rw [Int.toNat_natCast, List.getD_eq_getElem?_getD, List.getElem?_eq_getElem hje]; rfl
      have HMEM : Aside0 (e ∈ es) := ⟨by rw [hem]; exact List.getElem_mem hje⟩
      have HDR := Aside0.mk (show es.drop j = e :: es.drop (j + 1) by rw [hem]; exact List.drop_eq_getElem_cons hje)
      have hew := HWE.out e HMEM.out
      clear hee hem hje
      obtain ⟨V1, hV1⟩ : ∃ V, V = wr.alloc (.cells #[.string e.f0, .int .i64 e.f1] 88) := ⟨_, rfl⟩
      have hVB : Below wr.heap.size wr V1 := by rw [hV1]; exact below_alloc (Below.refl _ _) _
      have hVG : V1.heap[wr.heap.size]? = some (.cells #[.string e.f0, .int .i64 e.f1] 88 (0, 0)) := by rw [hV1]; exact (MapKept.heap_alloc _ _).1
      have hVM := HMQ2.out.below hVB
      have hlook := hVM.look Tryz.underlying86 (zero3 V1) hew
      have hlen2 : L2.length < maxLen := Nat.lt_of_le_of_lt (Nat.le_trans HLN2.out.len (by rw [← HN.out]; exact H4.out)) maxLen_128
      obtain ⟨V2, hup, hM2, hgr⟩ := hVM.store Tryz.underlying86 hew hlen2 (.int .i64 (wrap64 (Z2 e.f1 + 1)))
      rw [addV] at hM2
      have hgsm : gs ≠ mb := by rw [HMBE.out, HGS.out]; omega
      have hnm : wr.heap.size ≠ mb := Nat.ne_of_gt HMQ2.out.lt
      have hq0 : V1.heap[gs]? = some (.cells #[.slice (some ad) n c0, .int .i64 nx] 32 (0, 0)) := (hVB.block gs (blk_lt HGV.out)).trans HGV.out
      have hV2s := (hgr.block gs (blk_lt hq0) (fun e => hgsm (Option.some.inj e))).trans hq0
      have hV2n := (hgr.block wr.heap.size (blk_lt hVG) (fun e => hnm (Option.some.inj e))).trans hVG
      have HB3 : Aside0 (Below w.heap.size w V2) := ⟨pw_below_grown (below_step HBV.out hVB) (some mb) (below_step HBV.out hVB).size hgr (fun k e => by injection e with e; rw [← e, HMBE.out]; omega)⟩
      have HM3 := Aside0.mk hM2
      have HG3 := Aside0.mk hV2s
      have hc0 := blk_cell hV2s 0
      have hc1 := blk_cell hV2n 1
      have hd1 := blk_cell hVG 1
      have HJL := Aside0.mk hjl
      rw [hV1] at hlook hup hd1
      clear hV1 hVB hVG hVM hM2 hgr hq0 hV2s hV2n hlen2 hew hgsm hnm k0 k1 k2 k3 k4 k5
      by_cases hfd : isN l e.f1 = true
      ·have HFD := Aside0.mk hfd
       have hfd2 := hfd
       go_wp2_with (go_at_call 31; go_loud (have hbs := bsn37 (some ad) c0 l e.f1 V2 (Kd.C_below HR0.out HB3.out) (Nat.le_trans (by rw [← HN.out]; exact H4.out) (by decide)); rw [← HN.out] at hbs; refine hbs.mono ?_; clear hbs; rintro e_ w5 ⟨rfl, hb⟩; rw [HFD.out]; have HB5 := Aside0.mk hb; clear hb))
       rw [wrN hjl H7.out.2.1]
       refine ⟨⟨j + 1, addL Z2 e, addQ L2 e.f1, hjl, rfl, ⟨by rw [HLJ.out, HDR.out, List.cons_append, List.foldl_cons]⟩, ⟨?_⟩, ⟨HLN2.out.add HFD.out⟩, ⟨HM3.out.below HB5.out⟩, ⟨(HB5.out.block gs (blk_lt HG3.out)).trans HG3.out⟩, ⟨below_step HB3.out HB5.out⟩⟩, lessN_ hjl⟩
       intro m hm
       rcases Nat.lt_or_ge m j with hmj | hmj
       ·exact HOJ.out m hmj
       ·rw [Nat.le_antisymm (Nat.le_of_lt_succ hm) hmj, ← HEE.out]; exact HFD.out
      ·have hff : isN l e.f1 = false := by simpa using hfd
       have HFD := Aside0.mk hff
       clear hfd hff
       go_wp2_with (go_at_call 31; go_loud (have hbs := bsn37 (some ad) c0 l e.f1 V2 (Kd.C_below HR0.out HB3.out) (Nat.le_trans (by rw [← HN.out]; exact H4.out) (by decide)); rw [← HN.out] at hbs; refine hbs.mono ?_; clear hbs; rintro e_ w5 ⟨rfl, hb⟩; rw [HFD.out]; have HB5 := Aside0.mk hb; clear hb))
       go_ret
       rw [rest_bad HRR.out (i := i) (by rw [← HN.out]; exact HLT.out) (ok_e (e := e) (by rw [← HND.out, ← HES.out]; exact HMEM.out) HFD.out)]
       exact ⟨rfl, below_step HB3.out HB5.out⟩
     ·have hjN : j = N := Nat.le_antisymm hj (Nat.le_of_not_lt hjl)
      obtain rfl := hjN
      have hdj : decide ((j : Int) < (j : Int)) = false := decide_eq_false (Int.lt_irrefl _)
      clear hjl
      go_wp2
      rw [wrN HLT.out (Nat.le_trans H4.out (by decide))]
      refine ⟨⟨i + 1, Z2, L2, HLT.out, rfl, ⟨?_⟩, ⟨by rw [HLJ.out, List.drop_eq_nil_of_le (by rw [HNE.out]; exact Nat.le_refl _), List.nil_append]⟩, HLN2, HMQ2, HGV, HBV⟩, lessN_ HLT.out⟩
      intro m hm
      rcases Nat.lt_or_ge m i with hmj | hmj
      ·exact HOK.out m hmj
      ·rw [Nat.le_antisymm (Nat.le_of_lt_succ hm) hmj]
       refine ok_good (by rw [← HND.out]; exact Int.not_le.2 HQ.out) (fun h => absurd HI0.out h) ?_
       rw [← HND.out, ← HES.out]
       intro x hx
       obtain ⟨q, hq, rfl⟩ := List.mem_iff_getElem.1 hx
       have hq2 := HOJ.out q (by rw [HNE.out]; exact hq)
       rwa [show rd_T88 es (q : Int) = es[q] by unfold rd_T88; rw [Int.toNat_natCast, List.getD_eq_getElem?_getD, List.getElem?_eq_getElem hq]; rfl] at hq2
   have hi1 : decide ((i : Int) > 0) = true := decide_eq_true (by omega)
   have hi1b : decide (0 < i) = true := decide_eq_true (by omega)
   have hi1c : (0 < i) = True := eq_true (by omega)
   have hpw := wrpred hi0 (Nat.le_trans (Nat.le_of_lt hlt) H4.out)
   have hp1 : ((i - 1 : Nat) : Int) < (n : Int) := Int.ofNat_lt.2 (Nat.lt_of_le_of_lt (Nat.sub_le i 1) hlt)
   have hp0 : (0 : Int) ≤ ((i - 1 : Nat) : Int) := Int.natCast_nonneg _
   obtain ⟨ad', A6, c6, A7, c7, he, p0, hprest⟩ := at_T55 (Kd.C_below HR0.out HBW.out) ((i - 1 : Nat) : Int) (Int.natCast_nonneg _) (by rw [← HN.out]; exact hp1)
   obtain rfl := Option.some.inj he
   rw [Int.toNat_natCast] at p0
   obtain ⟨pi, hpi⟩ : ∃ p, p = i - 1 := ⟨_, rfl⟩
   have HPI := Aside0.mk hpi
   obtain ⟨y, hy⟩ : ∃ y, y = (rd_T55 l ((i - 1 : Nat) : Int)).f0 := ⟨_, rfl⟩
   have HY := Aside0.mk hy
   rw [← hy] at p0
   rw [← hpi] at p0 hpw hp0 hp1
   have HI0 := Aside0.mk hi0
   clear hi0 hy hpi he hprest
   by_cases hly : nd.f0 ≤ y
   ·have hl1 : decide (nd.f0 ≤ y) = true := decide_eq_true hly
    have HLY := Aside0.mk hly
    clear hly
    go_wp2
    generalize hW2 : wr.alloc (Obj.cells #[Value.int IntKind.i64 nd.f0, Value.bool nd.f1, Value.int IntKind.i64 nd.f2, Value.slice A3 nd.f3.length c3, Value.int IntKind.i64 nd.f4.f0, Value.slice A5 nd.f4.f1.length c5] 55) = W2
    have HB2 : Aside0 (Below wr.heap.size wr W2) := ⟨by rw [← hW2]; exact below_alloc (Below.refl _ _) _⟩
    have HGN : Aside0 (W2.heap[wr.heap.size]? = some (.cells #[.int .i64 nd.f0, .bool nd.f1, .int .i64 nd.f2, .slice A3 nd.f3.length c3, .int .i64 nd.f4.f0, .slice A5 nd.f4.f1.length c5] 55 (0, 0))) := ⟨by rw [← hW2]; exact (MapKept.heap_alloc _ _).1⟩
    have HG2 := Aside0.mk ((HB2.out.block gs (blk_lt HGW.out)).trans HGW.out)
    have HM2 := Aside0.mk (HMQ.out.below HB2.out)
    have hn0 := blk_cell HGN.out 0
    have hn3 := blk_cell HGN.out 3
    have hs0 := blk_cell HG2.out 0
    have hs1 := blk_cell HG2.out 1
    clear hW2 hgw0 hgw1
    have p2 := pw_cell_below HB2.out p0
    go_quiet (fail)
    go_wp2
    go_ret
    rw [rest_bad HRR.out (i := i) (by rw [← HN.out]; exact HLT.out) (ok_c HI0.out (by rw [← HND.out, ← HY.out]; exact HLY.out))]
    exact ⟨rfl, pw_below_drewN (below_step HBW.out HB2.out) _⟩
   have hl1 : decide (nd.f0 ≤ y) = false := decide_eq_false hly
   have HLY := Aside0.mk hly
   clear hly
   go_wp2
   generalize hW2 : wr.alloc (Obj.cells #[Value.int IntKind.i64 nd.f0, Value.bool nd.f1, Value.int IntKind.i64 nd.f2, Value.slice A3 nd.f3.length c3, Value.int IntKind.i64 nd.f4.f0, Value.slice A5 nd.f4.f1.length c5] 55) = W2
   have HB2 : Aside0 (Below wr.heap.size wr W2) := ⟨by rw [← hW2]; exact below_alloc (Below.refl _ _) _⟩
   have HGN : Aside0 (W2.heap[wr.heap.size]? = some (.cells #[.int .i64 nd.f0, .bool nd.f1, .int .i64 nd.f2, .slice A3 nd.f3.length c3, .int .i64 nd.f4.f0, .slice A5 nd.f4.f1.length c5] 55 (0, 0))) := ⟨by rw [← hW2]; exact (MapKept.heap_alloc _ _).1⟩
   have HG2 := Aside0.mk ((HB2.out.block gs (blk_lt HGW.out)).trans HGW.out)
   have HM2 := Aside0.mk (HMQ.out.below HB2.out)
   have hn0 := blk_cell HGN.out 0
   have hn3 := blk_cell HGN.out 3
   have hs0 := blk_cell HG2.out 0
   have hs1 := blk_cell HG2.out 1
   clear hW2 hgw0 hgw1
   have p2 := pw_cell_below HB2.out p0
   go_quiet (fail)
   clear hi1 hi1b hi1c hpw hp0 hp1 p0 p2 hl1
   go_wp2
   obtain ⟨es, hes⟩ : ∃ es, es = nd.f3 := ⟨_, rfl⟩
   have HES := Aside0.mk hes
   have HWE : Aside0 (∀ e ∈ es, (Lit.int .i64 e.f1).wf = true) := ⟨by rw [hes, HND.out]; exact (wf_nd HWF.out (by rw [← HN.out]; exact HLT.out)).2⟩
   have HLK2 : Aside0 (linksN l = (es ++ (l.drop (i + 1)).flatMap (·.f3)).foldl addL Z) := ⟨by rw [hes, HND.out, ← drop_map (by rw [← HN.out]; exact HLT.out)]; exact HLK.out⟩
   rw [← hes]
   obtain ⟨N, hNN⟩ : ∃ N, N = es.length := ⟨_, rfl⟩
   have HNE := Aside0.mk hNN
   have H7 : Aside0 (Kd.C k88 w A3 N es) := ⟨by rw [hNN, hes]; exact HC3.out⟩
   have HWB2 := Aside0.mk (below_step HBW.out HB2.out)
   rw [← hNN]
   clear hes hNN hn0 hn3 hs0 hs1
   go_loopw [74] (fun v74 W => ∃ (j : Nat) (Z2 : Int → Int) (L2 : List Int), j ≤ N ∧ v74 = .int .i64 (j : Int) ∧ Aside0 (linksN l = (es.drop j ++ (l.drop (i + 1)).flatMap (·.f3)).foldl addL Z2) ∧ Aside0 (∀ m, m < j → isN l (rd_T88 es (m : Int)).f1 = true) ∧ Aside0 (Ln l L2) ∧ Aside0 (Mq W mb L2 (.int .i64 0) (fun x => .int .i64 (Z2 x))) ∧ Aside0 (W.heap[gs]? = some (.cells #[.slice (some ad) n c0, .int .i64 nx] 32 (0, 0))) ∧ Aside0 (Below w.heap.size w W)) (fun v74 _ => N - (intOf v74).toNat)
   case atStart => exact ⟨0, Z, L, Nat.zero_le _, rfl, ⟨by rw [List.drop_zero]; exact HLK2.out⟩, ⟨fun _ h => absurd h (Nat.not_lt_zero _)⟩, HLN, ⟨HM2.out⟩, ⟨HG2.out⟩, ⟨pw_below_drewN HWB2.out _⟩⟩
   case round =>
    obtain ⟨j, Z2, L2, hj, rfl, HLJ, HOJ, HLN2, HMQ2, HGV, HBV⟩ := hrel
    by_cases hjl : j < N
    ·have hdj : decide ((j : Int) < (N : Int)) = true := decide_eq_true (Int.ofNat_lt.2 hjl)
     have hje : j < es.length := by rw [← HNE.out]; exact hjl
     obtain ⟨ae, hae, he0, he1⟩ := at_T88 (n := N) (Kd.C_below H7.out HBV.out) (j : Int) (Int.natCast_nonneg _) (Int.ofNat_lt.2 hjl)
     subst hae
     rw [Int.toNat_natCast] at he0 he1
     obtain ⟨e, hee⟩ : ∃ e, e = rd_T88 es (j : Int) := ⟨_, rfl⟩
     have HEE := Aside0.mk hee
     rw [← hee] at he0 he1
     have hem : e = es[j] := by rw [hee]; unfold rd_T88; rw [Int.toNat_natCast, List.getD_eq_getElem?_getD, List.getElem?_eq_getElem hje]; rfl
     have HMEM : Aside0 (e ∈ es) := ⟨by rw [hem]; exact List.getElem_mem hje⟩
     have HDR := Aside0.mk (show es.drop j = e :: es.drop (j + 1) by rw [hem]; exact List.drop_eq_getElem_cons hje)
     have hew := HWE.out e HMEM.out
     clear hee hem hje
     obtain ⟨V1, hV1⟩ : ∃ V, V = wr.alloc (.cells #[.string e.f0, .int .i64 e.f1] 88) := ⟨_, rfl⟩
     have hVB : Below wr.heap.size wr V1 := by rw [hV1]; exact below_alloc (Below.refl _ _) _
     have hVG : V1.heap[wr.heap.size]? = some (.cells #[.string e.f0, .int .i64 e.f1] 88 (0, 0)) := by rw [hV1]; exact (MapKept.heap_alloc _ _).1
     have hVM := HMQ2.out.below hVB
     have hlook := hVM.look Tryz.underlying86 (zero3 V1) hew
     have hlen2 : L2.length < maxLen := Nat.lt_of_le_of_lt (Nat.le_trans HLN2.out.len (by rw [← HN.out]; exact H4.out)) maxLen_128
     obtain ⟨V2, hup, hM2, hgr⟩ := hVM.store Tryz.underlying86 hew hlen2 (.int .i64 (wrap64 (Z2 e.f1 + 1)))
     rw [addV] at hM2
     have hgsm : gs ≠ mb := by rw [HMBE.out, HGS.out]; omega
     have hnm : wr.heap.size ≠ mb := Nat.ne_of_gt HMQ2.out.lt
     have hq0 : V1.heap[gs]? = some (.cells #[.slice (some ad) n c0, .int .i64 nx] 32 (0, 0)) := (hVB.block gs (blk_lt HGV.out)).trans HGV.out
     have hV2s := (hgr.block gs (blk_lt hq0) (fun e => hgsm (Option.some.inj e))).trans hq0
     have hV2n := (hgr.block wr.heap.size (blk_lt hVG) (fun e => hnm (Option.some.inj e))).trans hVG
     have HB3 : Aside0 (Below w.heap.size w V2) := ⟨pw_below_grown (below_step HBV.out hVB) (some mb) (below_step HBV.out hVB).size hgr (fun k e => by injection e with e; rw [← e, HMBE.out]; omega)⟩
     have HM3 := Aside0.mk hM2
     have HG3 := Aside0.mk hV2s
     have hc0 := blk_cell hV2s 0
     have hc1 := blk_cell hV2n 1
     have hd1 := blk_cell hVG 1
     have HJL := Aside0.mk hjl
     rw [hV1] at hlook hup hd1
     clear hV1 hVB hVG hVM hM2 hgr hq0 hV2s hV2n hlen2 hew hgsm hnm k0 k1 k2 k3 k4 k5
     by_cases hfd : isN l e.f1 = true
     ·have HFD := Aside0.mk hfd
      have hfd2 := hfd
      go_wp2_with (go_at_call 31; go_loud (have hbs := bsn37 (some ad) c0 l e.f1 V2 (Kd.C_below HR0.out HB3.out) (Nat.le_trans (by rw [← HN.out]; exact H4.out) (by decide)); rw [← HN.out] at hbs; refine hbs.mono ?_; clear hbs; rintro e_ w5 ⟨rfl, hb⟩; rw [HFD.out]; have HB5 := Aside0.mk hb; clear hb))
      rw [wrN hjl H7.out.2.1]
      refine ⟨⟨j + 1, addL Z2 e, addQ L2 e.f1, hjl, rfl, ⟨by rw [HLJ.out, HDR.out, List.cons_append, List.foldl_cons]⟩, ⟨?_⟩, ⟨HLN2.out.add HFD.out⟩, ⟨HM3.out.below HB5.out⟩, ⟨(HB5.out.block gs (blk_lt HG3.out)).trans HG3.out⟩, ⟨below_step HB3.out HB5.out⟩⟩, lessN_ hjl⟩
      intro m hm
      rcases Nat.lt_or_ge m j with hmj | hmj
      ·exact HOJ.out m hmj
      ·rw [Nat.le_antisymm (Nat.le_of_lt_succ hm) hmj, ← HEE.out]; exact HFD.out
     ·have hff : isN l e.f1 = false := by simpa using hfd
      have HFD := Aside0.mk hff
      clear hfd hff
      go_wp2_with (go_at_call 31; go_loud (have hbs := bsn37 (some ad) c0 l e.f1 V2 (Kd.C_below HR0.out HB3.out) (Nat.le_trans (by rw [← HN.out]; exact H4.out) (by decide)); rw [← HN.out] at hbs; refine hbs.mono ?_; clear hbs; rintro e_ w5 ⟨rfl, hb⟩; rw [HFD.out]; have HB5 := Aside0.mk hb; clear hb))
      go_ret
      rw [rest_bad HRR.out (i := i) (by rw [← HN.out]; exact HLT.out) (ok_e (e := e) (by rw [← HND.out, ← HES.out]; exact HMEM.out) HFD.out)]
      exact ⟨rfl, below_step HB3.out HB5.out⟩
    ·have hjN : j = N := Nat.le_antisymm hj (Nat.le_of_not_lt hjl)
     obtain rfl := hjN
     have hdj : decide ((j : Int) < (j : Int)) = false := decide_eq_false (Int.lt_irrefl _)
     clear hjl
     go_wp2
     rw [wrN HLT.out (Nat.le_trans H4.out (by decide))]
     refine ⟨⟨i + 1, Z2, L2, HLT.out, rfl, ⟨?_⟩, ⟨by rw [HLJ.out, List.drop_eq_nil_of_le (by rw [HNE.out]; exact Nat.le_refl _), List.nil_append]⟩, HLN2, HMQ2, HGV, HBV⟩, lessN_ HLT.out⟩
     intro m hm
     rcases Nat.lt_or_ge m i with hmj | hmj
     ·exact HOK.out m hmj
     ·rw [Nat.le_antisymm (Nat.le_of_lt_succ hm) hmj]
      refine ok_good (by rw [← HND.out]; exact Int.not_le.2 HQ.out) (fun _ => by rw [← HND.out, ← HY.out]; exact HLY.out) ?_
      rw [← HND.out, ← HES.out]
      intro x hx
      obtain ⟨q, hq, rfl⟩ := List.mem_iff_getElem.1 hx
      have hq2 := HOJ.out q (by rw [HNE.out]; exact hq)
      rwa [show rd_T88 es (q : Int) = es[q] by unfold rd_T88; rw [Int.toNat_natCast, List.getD_eq_getElem?_getD, List.getElem?_eq_getElem hq]; rfl] at hq2
  ·have hin : i = n := Nat.le_antisymm hi (Nat.le_of_not_lt hlt)
   have hdi : decide (i < n) = false := decide_eq_false (by omega)
   have HOKN : Aside0 (∀ j, j < n → okN l nx j = true) := ⟨by rw [← hin]; exact HOK.out⟩
   have HZ : Aside0 (linksN l = Z) := ⟨by rw [HLK.out, List.drop_eq_nil_of_le (by rw [hin, HN.out]; exact Nat.le_refl _)]; rfl⟩
   have HR1 : Aside0 (isN l 1 = true ∧ ∃ b, maysN k Z l = some b ∧ r = if b = true then endN l else 9) := ⟨by
    have h := HRR.out
    unfold restN at h
    rw [if_pos (List.all_eq_true.2 fun j hj => HOKN.out j (by rw [HN.out]; exact List.mem_range.1 hj)), HZ.out] at h
    by_cases hi1 : isN l 1 = true
    ·rw [if_pos hi1] at h
     obtain ⟨b, hb, he⟩ := Option.bind_eq_some_iff.1 h
     exact ⟨hi1, b, hb, (Option.some.inj he).symm⟩
    ·rw [if_neg hi1] at h; cases h⟩
   have HNM : Aside0 (Named l) := ⟨by
    intro nd hnd e he
    obtain ⟨q, hq, rfl⟩ := List.mem_iff_getElem.1 hnd
    have e1 : rd_T55 l (q : Int) = l[q] := by unfold rd_T55; rw [Int.toNat_natCast, List.getD_eq_getElem?_getD, List.getElem?_eq_getElem hq]; rfl
    have h1 := (wf_nd HWF.out hq).2 e (by rw [e1]; exact he)
    have h2 := HOKN.out q (by rw [HN.out]; exact hq)
    unfold okN at h2
    rw [Bool.and_eq_true] at h2
    exact ⟨h1, List.all_eq_true.1 h2.2 e (by rw [e1]; exact he)⟩⟩
   obtain ⟨hi1, b, hb1, hb2⟩ := HR1.out
   have HI1 := Aside0.mk hi1
   have HBB := Aside0.mk hb1
   have HRB := Aside0.mk hb2
   have hgw0 := blk_cell HGW.out 0
   clear hi1 hb1 hb2 hin HOK HLK HR1 HRR hlt hi HOKN HZ
   go_wp2
   clear hdi
   go_loopw [98] (fun v98 W => ∃ (i : Nat), i ≤ n ∧ v98 = .int .i64 (i : Int) ∧ Aside0 (maysN k Z (l.drop i) = some b) ∧ Aside0 (Mq W mb L (.int .i64 0) (fun x => .int .i64 (Z x))) ∧ Aside0 (W.heap[gs]? = some (.cells #[.slice (some ad) n c0, .int .i64 nx] 32 (0, 0))) ∧ Aside0 (Below w.heap.size w W)) (fun v98 _ => n - (intOf v98).toNat)
   case atStart => exact ⟨0, Nat.zero_le _, rfl, ⟨by rw [List.drop_zero]; exact HBB.out⟩, HMQ, HGW, HBW⟩
   case round =>
    obtain ⟨i, hi, rfl, HMY, HMQ2, HGV, HBV⟩ := hrel
    by_cases hlt : i < n
    ·have hd : decide ((i : Int) < (n : Int)) = true := decide_eq_true (Int.ofNat_lt.2 hlt)
     have hil : i < l.length := by rw [← HN.out]; exact hlt
     obtain ⟨ad', A3, c3, A5, c5, he, k0, hrest⟩ := at_T55 HR0.out (i : Int) (Int.natCast_nonneg _) (Int.ofNat_lt.2 hil)
     obtain rfl := Option.some.inj he
     rw [Int.toNat_natCast] at k0
     have hm := HMY.out
     have e1 : rd_T55 l (i : Int) = l[i] := by unfold rd_T55; rw [Int.toNat_natCast, List.getD_eq_getElem?_getD, List.getElem?_eq_getElem hil]; rfl
     rw [List.drop_eq_getElem_cons hil, ← e1] at hm
     obtain ⟨cd, hcd, hm⟩ := Option.bind_eq_some_iff.1 hm
     obtain ⟨cf, hcf, hm⟩ := Option.bind_eq_some_iff.1 hm
     have HCD := Aside0.mk hcd
     have HCF := Aside0.mk hcf
     have HM := Aside0.mk hm
     have HIL := Aside0.mk hil
     have hlook := HMQ2.out.look Tryz.underlying86 (zero3 wr) (wf_nd HWF.out hil).1
     obtain ⟨x, hx⟩ : ∃ x, x = (rd_T55 l (i : Int)).f0 := ⟨_, rfl⟩
     have HX := Aside0.mk hx
     rw [← hx] at k0 hlook
     have k0' := pw_cell_below HBV.out k0
     have hgv0 := blk_cell HGV.out 0
     have h0i : (0 : Int) ≤ (i : Int) := Int.natCast_nonneg _
     have hin : (i : Int) < (n : Int) := Int.ofNat_lt.2 hlt
     clear hrest he hm e1 hcd hcf hil k0 hx hgw0
     by_cases hmay : mayN cd cf (rd_T55 l (i : Int)) (Z x) = true
     ·have HMAY := Aside0.mk hmay
      clear hmay
      go_wp2_with (go_at_call 39; go_loud (refine (may_calls k w ad l i HIL.out HR0.out (Z x) cd cf wr HBV.out HCD.out HCF.out).mono ?_; rintro e_ w5 ⟨rfl, hb⟩; rw [HMAY.out]; have HB5 := Aside0.mk hb; clear hb))
      rw [wrN hlt (Nat.le_trans H4.out (by decide))]
      refine ⟨⟨i + 1, hlt, rfl, ⟨?_⟩, ⟨HMQ2.out.below HB5.out⟩, ⟨(HB5.out.block gs (blk_lt HGV.out)).trans HGV.out⟩, ⟨below_step HBV.out HB5.out⟩⟩, lessN_ hlt⟩
      have hm := HM.out
      rwa [← HX.out, if_pos HMAY.out] at hm
     ·have hmf : mayN cd cf (rd_T55 l (i : Int)) (Z x) = false := by simpa using hmay
      have HMAY := Aside0.mk hmf
      clear hmay hmf
      go_wp2_with (go_at_call 39; go_loud (refine (may_calls k w ad l i HIL.out HR0.out (Z x) cd cf wr HBV.out HCD.out HCF.out).mono ?_; rintro e_ w5 ⟨rfl, hb⟩; rw [HMAY.out]; have HB5 := Aside0.mk hb; clear hb))
      go_ret
      have hm := HM.out
      rw [← HX.out, if_neg (by rw [HMAY.out]; decide)] at hm
      rw [HRB.out, ← Option.some.inj hm, if_neg (by decide)]
      exact ⟨rfl, below_step HBV.out HB5.out⟩
    ·have hin : i = n := Nat.le_antisymm hi (Nat.le_of_not_lt hlt)
     have hdi : decide (i < n) = false := decide_eq_false (by omega)
     have HRE : Aside0 (r = endN l) := ⟨by
      have hm := HMY.out
      rw [List.drop_eq_nil_of_le (by rw [hin, HN.out]; exact Nat.le_refl _)] at hm
      rw [HRB.out, ← Option.some.inj hm, if_pos rfl]⟩
     have hmk := fun (W : World) => run_makeMap (P := Tryz.prog) 92 W
     have HMK := Aside0.mk (Mq.made wr (.bool false))
     have HBK : Aside0 (Below wr.heap.size wr (wr.alloc (.map #[] 0))) := ⟨below_alloc (Below.refl _ _) _⟩
     obtain ⟨mb2, hmb2⟩ : ∃ g, g = wr.heap.size := ⟨_, rfl⟩
     have HMB2 := Aside0.mk hmb2
     have hgsz := blk_lt HGV.out
     have hne2 : gs ≠ mb2 := by rw [hmb2]; exact Nat.ne_of_lt hgsz
     have hle2 : w.heap.size ≤ mb2 := by rw [hmb2]; exact HBV.out.size
     have HRC := Aside0.mk (reached_calls w gs mb2 ad c0 l nx HR0.out (by rw [← HN.out]; exact H4.out) HNM.out hne2 hle2 8 1 [] _ (.bool false) (wr.alloc (.map #[] 0)) (by decide) (by decide) HI1.out (Ln.nil l) (by rw [hmb2]; exact HMK.out) ((HBK.out.block gs hgsz).trans (by rw [← HN.out]; exact HGV.out)) (below_step HBV.out HBK.out))
     clear hmb2 hgsz hne2 hle2 hin hlt hi
     obtain ⟨R, hR⟩ : ∃ R, R = (reachN l 8 1 []).length := ⟨_, rfl⟩
     have HRR2 := Aside0.mk hR
     by_cases hrn : R = n
     ·have hr1 : ((R : Int) != (n : Int)) = false := by rw [hrn]; simp
      have HRN := Aside0.mk hrn
      clear hrn hR
      obtain ⟨D, hD⟩ : ∃ D, D = depthN l 9 1 := ⟨_, rfl⟩
      have HDD := Aside0.mk hD
      clear hD
      by_cases hd8 : D ≤ 8
      ·have hd1 : decide ((D : Int) > 8) = false := decide_eq_false (by omega)
       have HD8 := Aside0.mk hd8
       clear hd8
       go_wp2_with (first
        | (go_at_call 40; go_loud (rw [← HMB2.out]; refine HRC.out.mono ?_; rintro e_ w5 ⟨rfl, ⟨V5, hM5⟩, hG5, hB5⟩; have hl5 := fun ty => hM5.len Tryz.underlying92 ty; rw [← HRR2.out] at hl5; rw [← HN.out] at hG5; have HG5 := Aside0.mk hG5; have HB5 := Aside0.mk hB5; have hg50 := blk_cell HG5.out 0; clear hM5 hG5 hB5 HRC))
        | (go_at_call 41; go_loud (have hdc := depth_calls w gs ad c0 l nx HR0.out (by rw [← HN.out]; exact H4.out) HNM.out 9 1 w5 (by decide) HI1.out (by rw [← HN.out]; exact HG5.out) HB5.out; rw [← HDD.out] at hdc; refine hdc.mono ?_; clear hdc; rintro e_ w6 ⟨rfl, hb⟩; have HB6 := Aside0.mk hb; clear hb)))
       go_ret
       rw [HRE.out]
       unfold endN
       rw [if_pos ⟨by rw [← HRR2.out, ← HN.out]; exact HRN.out, by rw [← HDD.out]; exact HD8.out⟩]
       exact ⟨rfl, below_step HB5.out HB6.out⟩
      ·have hd1 : decide ((D : Int) > 8) = true := decide_eq_true (by omega)
       have HD8 := Aside0.mk hd8
       clear hd8
       go_wp2_with (first
        | (go_at_call 40; go_loud (rw [← HMB2.out]; refine HRC.out.mono ?_; rintro e_ w5 ⟨rfl, ⟨V5, hM5⟩, hG5, hB5⟩; have hl5 := fun ty => hM5.len Tryz.underlying92 ty; rw [← HRR2.out] at hl5; rw [← HN.out] at hG5; have HG5 := Aside0.mk hG5; have HB5 := Aside0.mk hB5; have hg50 := blk_cell HG5.out 0; clear hM5 hG5 hB5 HRC))
        | (go_at_call 41; go_loud (have hdc := depth_calls w gs ad c0 l nx HR0.out (by rw [← HN.out]; exact H4.out) HNM.out 9 1 w5 (by decide) HI1.out (by rw [← HN.out]; exact HG5.out) HB5.out; rw [← HDD.out] at hdc; refine hdc.mono ?_; clear hdc; rintro e_ w6 ⟨rfl, hb⟩; have HB6 := Aside0.mk hb; clear hb)))
       go_ret
       rw [HRE.out]
       unfold endN
       rw [if_neg (fun h => absurd h.2 (by rw [← HDD.out]; exact HD8.out))]
       exact ⟨rfl, below_step HB5.out HB6.out⟩
     ·have hr1 : ((R : Int) != (n : Int)) = true := bne_iff_ne.2 (by omega)
      have HRN := Aside0.mk hrn
      clear hrn hR
      go_wp2_with (go_at_call 40; go_loud (rw [← HMB2.out]; refine HRC.out.mono ?_; rintro e_ w5 ⟨rfl, ⟨V5, hM5⟩, hG5, hB5⟩; have hl5 := fun ty => hM5.len Tryz.underlying92 ty; rw [← HRR2.out] at hl5; rw [← HN.out] at hG5; have HG5 := Aside0.mk hG5; have HB5 := Aside0.mk hB5; have hg50 := blk_cell HG5.out 0; clear hM5 hG5 hB5 HRC))
      go_ret
      rw [HRE.out]
      unfold endN
      rw [if_neg (fun h => absurd h.1 (by rw [← HRR2.out, ← HN.out]; exact HRN.out))]
      exact ⟨rfl, HB5.out⟩
set_option maxHeartbeats 8000000 in
set_option maxRecDepth 100000 in
theorem fs_Check.calls (k : Nat) (A0_0 : Option Addr) (c0_0 : Nat) (l0_0 : List S55) (a0_1 : Int) (r1 : Int) (w : World) (hr0_0 : Kd.C k55 w A0_0 l0_0.length l0_0) (hc0_0 : l0_0.length ≤ c0_0) (h : fs_Check.f k l0_0 a0_1 = some r1) :
  Calls Tryz.prog 17 #[.agg #[.slice A0_0 l0_0.length c0_0, .int .i64 a0_1]] w fun e w' => e = .returned (.int .i64 r1) ∧ Below w.heap.size w w' := by
 unfold fs_Check.f at h
 by_cases h1 : a0_1 ≤ 1
 ·rw [if_pos h1] at h
  obtain rfl := Option.some.inj h
  exact check_bad1 A0_0 c0_0 l0_0 a0_1 w h1
 rw [if_neg h1] at h
 by_cases h2 : a0_1 > 2147483647
 ·rw [if_pos h2] at h
  obtain rfl := Option.some.inj h
  exact check_bad2 A0_0 c0_0 l0_0 a0_1 w h1 h2
 rw [if_neg h2] at h
 by_cases h3 : l0_0.length = 0
 ·rw [if_pos h3] at h
  obtain rfl := Option.some.inj h
  exact check_bad3 A0_0 c0_0 l0_0 a0_1 w h1 h2 h3
 rw [if_neg h3] at h
 by_cases h4 : l0_0.length > 128
 ·rw [if_pos h4] at h
  obtain rfl := Option.some.inj h
  exact check_bad4 A0_0 c0_0 l0_0 a0_1 w h1 h2 h4
 rw [if_neg h4] at h
 by_cases h5 : (rd_T55 l0_0 0).f0 ≠ 1
 ·rw [if_pos h5] at h
  obtain rfl := Option.some.inj h
  exact check_bad5 A0_0 c0_0 l0_0 a0_1 w hr0_0 h1 h2 h3 h4 h5
 rw [if_neg h5] at h
 by_cases h6 : wfN l0_0 = true
 ·rw [if_pos h6] at h
  obtain ⟨ad, A3, c3, A5, c5, he, _⟩ := at_T55 hr0_0 0 (Int.le_refl _) (by omega)
  subst he
  exact check_main k ad c0_0 l0_0 a0_1 r1 w hr0_0 h1 h2 h3 (by omega) (by simpa using h5) h6 h
 ·rw [if_neg h6] at h; cases h
theorem mays_mono : ∀ (l : List S55) (Z : Int → Int) k, LeO (maysN k Z l) (maysN (k + 1) Z l)
 | [], _, _ => LeO.refl _
 | nd :: r, Z, k => by
  show LeO ((dir_Check.f k nd.f3).bind _) ((dir_Check.f (k + 1) nd.f3).bind _)
  refine LeO.bind (dir_Check.mono nd.f3 k) (fun cd => ?_)
  refine LeO.bind (file_Check.mono nd.f4.f0 nd.f4.f1 k) (fun cf => ?_)
  exact LeO.ite (mays_mono r Z k) (LeO.refl _)
theorem fs_Check.mono : ∀ l0_0 a0_1 k, LeO (fs_Check.f k l0_0 a0_1) (fs_Check.f (k + 1) l0_0 a0_1) := by
 intro l nx k
 unfold fs_Check.f
 refine LeO.ite (LeO.refl _) (LeO.ite (LeO.refl _) (LeO.ite (LeO.refl _) (LeO.ite (LeO.refl _) (LeO.ite (LeO.refl _) (LeO.ite ?_ (LeO.refl _))))))
 unfold restN
 exact LeO.ite (LeO.ite (LeO.bind (mays_mono l _ k) (fun _ => LeO.refl _)) (LeO.refl _)) (LeO.refl _)

end Go.Proofs.YtfakjmjkodkceaaGreatDoor.PImw
