-- Written by a program of this session (gen.py).
import Derived.Test.YtfakjmjkodkceaaGreatDoorPImwx0
import Derived.Test.YtfakjmjkodkceaaGreatDoorPImwx9
namespace Go.Proofs.YtfakjmjkodkceaaGreatDoor.PImw
open Go.RowKit Go.Proofs.YtfakjmjkodkceaaGreatDoorW.PrintWords Go.Proofs.YtfakjmjkodkceaaGreatDoorW.PrintLast Go.Proofs.YtfakjmjkodkceaaGreatDoorW.PrintMore
open Go.Proofs.YtfakjmjkodkceaaGreatDoor.Own
attribute [local go_sem high] unary_not_u32 unary_not_u64 unary_not_u8 string_leq_ string_gtr_ string_geq_
attribute [local go_sem] max2_int min2_int max_two min_two max_three min_three max_four min_four   -- for this text's walks alone
set_option linter.unusedVariables false
set_option linter.unusedSimpArgs false

/-! ### wire_Decode: function 70 -/
/-- An error of octets. -/
def errF : Option Int → Value
 | none => .nilIface
 | some c => .iface 168 (.agg #[.int .i64 c])
theorem errF_none : errF none = .nilIface := rfl
theorem errF_some (c : Int) : errF (some c) = .iface 168 (.agg #[.int .i64 c]) := rfl
/-- All are octets. -/
def oct5 (l : List Int) : Bool := l.all fun x => decide (0 ≤ x) && decide (x ≤ 255)
theorem oct5_at {l : List Int} (h : oct5 l = true) {x : Int} (hx : x ∈ l) : 0 ≤ x ∧ x ≤ 255 := by
 have := List.all_eq_true.1 h x hx
 simp at this
 exact this
theorem oct5_sub {l m : List Int} (h : oct5 l = true) (hm : ∀ x ∈ m, x ∈ l) : oct5 m = true := List.all_eq_true.2 (fun x hx => List.all_eq_true.1 h x (hm x hx))
/-- A scanner at g, with l as its rest; what it reads lies in w0. -/
structure Sc (w0 W : World) (g : Nat) (l : List Int) : Prop where
 low : w0.heap.size ≤ g
 below : Below w0.heap.size w0 W
 oct : oct5 l = true
 box : ∃ A c, W.heap[g]? = some (.cells #[.slice A l.length c] 154 (0, 0)) ∧ l.length ≤ c ∧ Kd.C (Kd.int .u8) w0 A l.length l
def takeI (n : Nat) (l : List Int) : (List Int × Option Int) × List Int := if l.length < n then (([], some 8), l) else ((l.take n, none), l.drop n)
def octetI : List Int → (Int × Option Int) × List Int
 | [] => ((0, some 8), [])
 | x :: r => ((x, none), r)
theorem Sc.moved {w0 W W' : World} {g : Nat} {l : List Int} (h : Sc w0 W g l) (hb : Below W.heap.size W W') : Sc w0 W' g l := by
 obtain ⟨h1, h2, h3, A, c, h4, h5⟩ := h
 exact ⟨h1, below_step h2 hb, h3, A, c, (hb.block g (Array.getElem?_eq_some_iff.1 h4).1).trans h4, h5⟩
theorem Sc.lt {w0 W : World} {g : Nat} {l : List Int} (h : Sc w0 W g l) : g < W.heap.size := by
 obtain ⟨h1, h2, h3, A, c, h4, h5⟩ := h
 exact blk_lt h4
set_option maxHeartbeats 8000000 in
set_option maxRecDepth 100000 in
theorem take_calls (w0 W : World) (g n : Nat) (l : List Int) (hs : Sc w0 W g l) (hn : n ≤ 1099511627776) :
  Calls Tryz.prog 110 #[.pointer (some ⟨g, 0, none⟩), .int .i64 (n : Int)] W fun e w' => ∃ A c, e = .returned (.tuple #[.slice A (takeI n l).1.1.length c, errF (takeI n l).1.2]) ∧ (takeI n l).1.1.length ≤ c ∧ Kd.C (Kd.int .u8) w0 A (takeI n l).1.1.length (takeI n l).1.1 ∧ Sc w0 w' g (takeI n l).2 ∧ Kept W w' (fun k => k = g) := by
 have HSC := Aside0.mk hs
 obtain ⟨h1, h2, h3, A, c, h4, h5, h6⟩ := hs
 have hc0 : W.cell? ⟨g, 0, none⟩ = some (.slice A l.length c) := (blk_cell h4 0).trans rfl
 have hf0 := blk_frozen h4 0
 have HB4 := Aside0.mk h4
 by_cases hlt : l.length < n
 ·have he : takeI n l = (([], some 8), l) := by unfold takeI; rw [if_pos hlt]
  rw [he]
  have hd : decide ((l.length : Int) < (n : Int)) = true := decide_eq_true (by omega)
  have hp : ((l.length : Int) < (n : Int)) = True := eq_true (by omega)
  have hp2 : (l.length < n) = True := eq_true hlt
  have HK := Aside0.mk (Kept.refl W (fun k => k = g))
  clear h1 h2 h3 h4 h5 h6 he
  go_enter Tryz.func110, Tryz.ntmps110
  go_wp2
  go_ret2
  exact ⟨none, 0, by rw [errF_some]; rfl, Nat.le_refl _, ⟨rfl, by decide, fun h => absurd h (by decide)⟩, HSC.out, HK.out⟩
 ·have hle : n ≤ l.length := by omega
  have he : takeI n l = ((l.take n, none), l.drop n) := by unfold takeI; rw [if_neg hlt]
  rw [he]
  have hd : decide ((l.length : Int) < (n : Int)) = false := decide_eq_false (by omega)
  have hp : ((l.length : Int) < (n : Int)) = False := eq_false (by omega)
  have hp2 : (l.length < n) = False := eq_false hlt
  obtain ⟨i0, hi0, hz0, hs0, _⟩ := info_parts info5
  have k1 : ∀ W : World, (Instr.slice 41 (.slice A l.length c) none (some (.int .i64 (n : Int))) none).run Tryz.prog W = .ok (.slice A n c) W := fun W => by
   have h_ := cut_to (P := Tryz.prog) 41 5 .i64 Tryz.underlying41 hi0 A l.length c (n : Int) (by omega) (by omega) h5 W
   rwa [Int.toNat_natCast] at h_
  have hC1 := Kd.C_take h6 hle
  have hC2 := Kd.C_drop h6 hle h5
  have hl1 : (l.take n).length = n := by rw [List.length_take]; omega
  have hl2 : (l.drop n).length = l.length - n := List.length_drop
  have hk2 : ∀ W : World, (Instr.slice 41 (.slice A l.length c) (some (.int .i64 (n : Int))) none none).run Tryz.prog W = .ok (.slice (if c = n then A else A.map (·.add (n * 1))) (l.drop n).length (c - n)) W := fun W => by
   have h_ := cut_from (P := Tryz.prog) 41 5 .i64 Tryz.underlying41 hi0 1 hs0 A l.length c (n : Int) (by omega) (by omega) W
   rw [Int.toNat_natCast] at h_
   rw [hl2]
   exact h_
  have hC2 : Kd.C (Kd.int .u8) w0 (if c = n then A else A.map (·.add (n * 1))) (l.drop n).length (l.drop n) := hC2
  rw [hl1] at hC1
  generalize (if c = n then A else A.map (·.add (n * 1))) = A2 at hk2 hC2
  have ho2 : oct5 (l.drop n) = true := oct5_sub h3 (fun x hx => List.mem_of_mem_drop hx)
  have hle2 : (l.drop n).length ≤ c - n := by rw [hl2]; omega
  have hnc : n ≤ c := by omega
  have H1 := Aside0.mk h1
  have H2 := Aside0.mk h2
  have HC1 := Aside0.mk hC1
  have HC2 := Aside0.mk hC2
  have HO := Aside0.mk ho2
  have HL1 := Aside0.mk hl1
  have HLE2 := Aside0.mk hle2
  have HNC := Aside0.mk hnc
  clear h1 h2 h3 h4 h5 h6 he hC1 hC2 hl1 hl2 ho2 hle2 hnc hs0 hz0 hi0 hle hlt
  generalize l.drop n = r at *
  generalize hyy : l.take n = y at *
  go_enter Tryz.func110, Tryz.ntmps110
  go_wp2
  go_ret2
  refine ⟨A, c, by rw [HL1.out]; rfl, by rw [HL1.out]; exact HNC.out, by rw [HL1.out]; exact HC1.out, ⟨H1.out, below_set H2.out H1.out, HO.out, A2, c - n, blk_put HB4.out 0 _ rfl, HLE2.out, HC2.out⟩, ⟨by simp [World.setCell], fun i hi hne => Below.heap_setCell _ _ _ _ (fun e => hne e)⟩⟩
theorem take_nil (w0 W : World) (g : Nat) (hs : Sc w0 W g []) : Calls Tryz.prog 110 #[.pointer (some ⟨g, 0, none⟩), .int .i64 1] W fun e w' => ∃ A c, e = .returned (.tuple #[.slice A 0 c, .iface 168 (.agg #[.int .i64 8])]) ∧ Sc w0 w' g [] ∧ Kept W w' (fun k => k = g) := by
 refine Calls.mono (take_calls w0 W g 1 [] hs (by decide)) ?_
 rintro e w' ⟨A, c, rfl, _, _, h1, h2⟩
 exact ⟨A, c, rfl, h1, h2⟩
theorem take_one (w0 W : World) (g : Nat) (x : Int) (r : List Int) (hs : Sc w0 W g (x :: r)) : Calls Tryz.prog 110 #[.pointer (some ⟨g, 0, none⟩), .int .i64 1] W fun e w' => ∃ ad c, e = .returned (.tuple #[.slice (some ad) 1 c, .nilIface]) ∧ w'.cell? ad = some (.int .u8 x) ∧ Sc w0 w' g r ∧ Kept W w' (fun k => k = g) := by
 refine Calls.mono (take_calls w0 W g 1 (x :: r) hs (by decide)) ?_
 rintro e w' ⟨A, c, rfl, h0, hC, h1, h2⟩
 have e1 : takeI 1 (x :: r) = (([x], none), r) := by unfold takeI; rw [if_neg (by simp)]; rfl
 rw [e1] at hC h1 ⊢
 have hC' : Kd.C (Kd.int .u8) w0 A 1 [x] := hC
 obtain ⟨ad, rfl, hx⟩ := Kd.at_int hC' 0 (by decide) (by decide)
 have hx2 : w0.cell? ad = some (.int .u8 x) := by
  have h3 : w0.cell? (ad.add 0) = some (.int .u8 x) := hx
  rwa [show ad.add 0 = ad from rfl] at h3
 exact ⟨ad, c, rfl, pw_cell_below h1.below hx2, h1, h2⟩
set_option maxHeartbeats 8000000 in
set_option maxRecDepth 100000 in
theorem octet_calls (w0 W : World) (g : Nat) (l : List Int) (hs : Sc w0 W g l) : Calls Tryz.prog 96 #[.pointer (some ⟨g, 0, none⟩)] W fun e w' => e = .returned (.tuple #[.int .i64 (octetI l).1.1, errF (octetI l).1.2]) ∧ Sc w0 w' g (octetI l).2 ∧ Kept W w' (fun k => k = g) := by
 have HSC := Aside0.mk hs
 have HOC := Aside0.mk hs.oct
 clear hs
 cases l with
 | nil =>
  go_enter Tryz.func96, Tryz.ntmps96
  go_wp2_with (first
   | (go_at_call 110; go_loud (refine (take_nil w0 _ g HSC.out).mono ?_; rintro e w1 ⟨A, c, rfl, h1, h2⟩; have H1 := Aside0.mk h1; have H2 := Aside0.mk h2; clear h1 h2)))
  go_ret2
  exact ⟨rfl, H1.out, H2.out⟩
 | cons x r =>
  have hx := oct5_at HOC.out (List.mem_cons_self (a := x) (l := r))
  have hw : wrap64 x = x := by unfold wrap64; omega
  have HX := Aside0.mk hx
  clear hx
  go_enter Tryz.func96, Tryz.ntmps96
  go_wp2_with (first
   | (go_at_call 110; go_loud (refine (take_one w0 _ g x r HSC.out).mono ?_; rintro e w1 ⟨ad, c, rfl, hx, h1, h2⟩; have H1 := Aside0.mk h1; have H2 := Aside0.mk h2; clear h1 h2)))
  go_ret2
  have e1 : (octetI (x :: r)).1.1 = wrap64 x := hw.symm
  exact ⟨by rw [e1]; rfl, H1.out, H2.out⟩
def countI (most : Int) (l : List Int) : (Int × Option Int) × List Int := if (octetI l).1.2 = none ∧ most < (octetI l).1.1 then (((octetI l).1.1, some 3), (octetI l).2) else octetI l
set_option maxHeartbeats 8000000 in
set_option maxRecDepth 100000 in
theorem count_calls (w0 W : World) (g : Nat) (most : Int) (l : List Int) (hs : Sc w0 W g l) : Calls Tryz.prog 111 #[.pointer (some ⟨g, 0, none⟩), .int .i64 most] W fun e w' => e = .returned (.tuple #[.int .i64 (countI most l).1.1, errF (countI most l).1.2]) ∧ Sc w0 w' g (countI most l).2 ∧ Kept W w' (fun k => k = g) := by
 have HSC := Aside0.mk hs
 clear hs
 cases l with
 | nil =>
  have he : countI most [] = octetI [] := by unfold countI; rw [if_neg (by simp [octetI])]
  rw [he]
  go_enter Tryz.func111, Tryz.ntmps111
  go_wp2_with (first
   | (go_at_call 96; go_loud (refine (octet_calls w0 _ g [] HSC.out).mono ?_; rintro e w1 ⟨rfl, h1, h2⟩; have H1 := Aside0.mk h1; have H2 := Aside0.mk h2; clear h1 h2; simp only [octetI, errF_some])))
  go_ret2
  exact ⟨rfl, H1.out, H2.out⟩
 | cons x r =>
  by_cases hc : most < x
  ·have he : countI most (x :: r) = ((x, some 3), r) := by unfold countI; rw [if_pos ⟨rfl, hc⟩]; rfl
   rw [he]
   have hd : decide (most < x) = true := decide_eq_true hc
   have hp : (most < x) = True := eq_true hc
   clear hc he
   go_enter Tryz.func111, Tryz.ntmps111
   go_wp2_with (first
    | (go_at_call 96; go_loud (refine (octet_calls w0 _ g (x :: r) HSC.out).mono ?_; rintro e w1 ⟨rfl, h1, h2⟩; have H1 := Aside0.mk h1; have H2 := Aside0.mk h2; clear h1 h2; simp only [octetI, errF_none])))
   go_ret2
   exact ⟨rfl, H1.out, H2.out⟩
  ·have he : countI most (x :: r) = ((x, none), r) := by unfold countI; rw [if_neg (fun h => hc h.2)]; rfl
   rw [he]
   have hd : decide (most < x) = false := decide_eq_false hc
   have hp : (most < x) = False := eq_false hc
   clear hc he
   go_enter Tryz.func111, Tryz.ntmps111
   go_wp2_with (first
    | (go_at_call 96; go_loud (refine (octet_calls w0 _ g (x :: r) HSC.out).mono ?_; rintro e w1 ⟨rfl, h1, h2⟩; have H1 := Aside0.mk h1; have H2 := Aside0.mk h2; clear h1 h2; simp only [octetI, errF_none])))
   go_ret2
   exact ⟨rfl, H1.out, H2.out⟩
def gstep (n c : Int) (i : Nat) : Int := bits BinOp.or IntKind.u64 n (IntKind.u64.wrap (IntKind.u64.wrap (bits BinOp.and IntKind.i64 c 127) * 2 ^ (7 * i)))
def groupsI : Nat → Int → List Int → (Int × Option Int) × List Int
 | _, _, [] => ((0, some 8), [])
 | i, n, c :: r => if (i = 9 ∧ 1 < c) ∨ (0 < i ∧ c = 0) then ((0, some 4), r) else if c < 128 then ((gstep n c i, none), r) else groupsI (i + 1) (gstep n c i) r
theorem groupsI_err {i : Nat} {n c : Int} {r : List Int} (h : (i = 9 ∧ 1 < c) ∨ (0 < i ∧ c = 0)) : groupsI i n (c :: r) = ((0, some 4), r) := by rw [groupsI, if_pos h]
theorem groupsI_end {i : Nat} {n c : Int} {r : List Int} (h : ¬ ((i = 9 ∧ 1 < c) ∨ (0 < i ∧ c = 0))) (h8 : c < 128) : groupsI i n (c :: r) = ((gstep n c i, none), r) := by rw [groupsI, if_neg h, if_pos h8]
theorem groupsI_on {i : Nat} {n c : Int} {r : List Int} (h : ¬ ((i = 9 ∧ 1 < c) ∨ (0 < i ∧ c = 0))) (h8 : ¬ c < 128) : groupsI i n (c :: r) = groupsI (i + 1) (gstep n c i) r := by rw [groupsI, if_neg h, if_neg h8]
theorem groups_next {i : Nat} (h : i < 9) : wrap64 (7 * (i : Int) + 7) = 7 * ((i + 1 : Nat) : Int) := by unfold wrap64; omega
set_option maxHeartbeats 8000000 in
set_option maxRecDepth 100000 in
theorem groups_calls (w0 W : World) (g : Nat) (l : List Int) (hs : Sc w0 W g l) : Calls Tryz.prog 112 #[.pointer (some ⟨g, 0, none⟩)] W fun e w' => e = .returned (.tuple #[.int .u64 (groupsI 0 0 l).1.1, errF (groupsI 0 0 l).1.2]) ∧ Sc w0 w' g (groupsI 0 0 l).2 ∧ Kept W w' (fun k => k = g) := by
 obtain ⟨RR, hRR⟩ : ∃ RR, RR = groupsI 0 0 l := ⟨_, rfl⟩
 rw [← hRR]
 have HRR := Aside0.mk hRR.symm
 have HSC := Aside0.mk hs
 have HK0 := Aside0.mk (Kept.refl W (fun k => k = g))
 clear hs hRR
 go_enter Tryz.func112, Tryz.ntmps112
 go_wp2
 go_loopw [4, 5] (fun v4 v5 w1 => ∃ (i : Nat) (n : Int) (l1 : List Int), i ≤ 9 ∧ v5 = .int .i64 (7 * (i : Int)) ∧ v4 = .int .u64 n ∧ Aside0 (groupsI i n l1 = RR) ∧ Aside0 (Sc w0 w1 g l1) ∧ Aside0 (Kept W w1 (fun k => k = g))) (fun _ v5 _ => 100 - (intOf v5).toNat)
 case atStart => exact ⟨0, 0, l, by omega, rfl, rfl, HRR, HSC, HK0⟩
 case round =>
  obtain ⟨i, n, l1, hi, rfl, rfl, HR, HSC1, HK1⟩ := hrel
  have HOC := Aside0.mk HSC1.out.oct
  clear HSC HRR HK0
  have HIM := Aside0.mk (show min (7 * i) 64 = 7 * i by omega)
  have hnn : (0 ≤ 7 * (i : Int)) = True := eq_true (by omega)
  have hnn2 : (0 ≤ (i : Int)) = True := eq_true (by omega)
  cases l1 with
  | nil =>
   have hR : RR = ((0, some 8), []) := HR.out.symm
   subst hR
   go_wp2_with (first
    | (go_at_call 96; go_loud (refine (octet_calls w0 _ g [] HSC1.out).mono ?_; rintro e w1 ⟨rfl, h1, h2⟩; have H1 := Aside0.mk h1; have H2 := Aside0.mk (HK1.out.then_ h2 (fun _ h_ => .inl h_)); clear h1 h2; simp only [octetI, errF_some])))
   go_ret2
   exact ⟨rfl, H1.out, H2.out⟩
  | cons c r =>
   have hc := oct5_at HOC.out (List.mem_cons_self (a := c) (l := r))
   by_cases hE : (i = 9 ∧ 1 < c) ∨ (0 < i ∧ c = 0)
   ·have hR : RR = ((0, some 4), r) := HR.out.symm.trans (groupsI_err hE)
    subst hR
    have hp : ((((7 * (i : Int) = 63) = True ∧ ((i : Int) = 9) = True ∧ (i = 9) = True ∧ (7 * (i : Int) == 63) = true) ∧ (1 < c) = True) ∨ (((7 * (i : Int) = 63) = True ∧ ((i : Int) = 9) = True ∧ (i = 9) = True ∧ (7 * (i : Int) == 63) = true) ∧ (1 < c) = False ∧ (0 < 7 * (i : Int)) = True ∧ (0 < i) = True ∧ ((c = 0) = True ∧ (c == 0) = true))) ∨ (((7 * (i : Int) = 63) = False ∧ ((i : Int) = 9) = False ∧ (i = 9) = False ∧ (7 * (i : Int) == 63) = false) ∧ (0 < 7 * (i : Int)) = True ∧ (0 < i) = True ∧ ((c = 0) = True ∧ (c == 0) = true)) := by
     by_cases h9 : i = 9
     ·by_cases h1 : 1 < c
      ·exact .inl (.inl ⟨⟨eq_true (by omega), eq_true (by omega), eq_true h9, beq_iff_eq.2 (by omega)⟩, eq_true h1⟩)
      ·exact .inl (.inr ⟨⟨eq_true (by omega), eq_true (by omega), eq_true h9, beq_iff_eq.2 (by omega)⟩, eq_false h1, eq_true (by omega), eq_true (by omega), ⟨eq_true (by omega), beq_iff_eq.2 (by omega)⟩⟩)
     ·exact .inr ⟨⟨eq_false (by omega), eq_false (by omega), eq_false h9, beq_eq_false_iff_ne.2 (by omega)⟩, eq_true (by omega), eq_true (by omega), ⟨eq_true (by omega), beq_iff_eq.2 (by omega)⟩⟩
    clear hE hc HR hi
    rcases hp with (⟨⟨hp1, hq1, hr1, hb1⟩, hp2⟩ | ⟨⟨hp1, hq1, hr1, hb1⟩, hp2, hp3, hp4, ⟨hp5, hcb⟩⟩) | ⟨⟨hp1, hq1, hr1, hb1⟩, hp3, hp4, ⟨hp5, hcb⟩⟩
    all_goals
     go_wp2_with (first
      | (go_at_call 96; go_loud (refine (octet_calls w0 _ g (c :: r) HSC1.out).mono ?_; rintro e w1 ⟨rfl, h1, h2⟩; have H1 := Aside0.mk h1; have H2 := Aside0.mk (HK1.out.then_ h2 (fun _ h_ => .inl h_)); clear h1 h2; simp only [octetI, errF_none])))
     go_ret2
     exact ⟨rfl, H1.out, H2.out⟩
   ·have hp : (((7 * (i : Int) = 63) = True ∧ ((i : Int) = 9) = True ∧ (i = 9) = True ∧ (7 * (i : Int) == 63) = true) ∧ (1 < c) = False ∧ (0 < 7 * (i : Int)) = True ∧ (0 < i) = True ∧ ((c = 0) = False ∧ (c == 0) = false)) ∨ (((7 * (i : Int) = 63) = False ∧ ((i : Int) = 9) = False ∧ (i = 9) = False ∧ (7 * (i : Int) == 63) = false) ∧ (0 < 7 * (i : Int)) = True ∧ (0 < i) = True ∧ ((c = 0) = False ∧ (c == 0) = false)) ∨ (((7 * (i : Int) = 63) = False ∧ ((i : Int) = 9) = False ∧ (i = 9) = False ∧ (7 * (i : Int) == 63) = false) ∧ (0 < 7 * (i : Int)) = False ∧ (0 < i) = False) := by
     by_cases h9 : i = 9
     ·exact .inl ⟨⟨eq_true (by omega), eq_true (by omega), eq_true h9, beq_iff_eq.2 (by omega)⟩, eq_false (by omega), eq_true (by omega), eq_true (by omega), ⟨eq_false (by omega), beq_eq_false_iff_ne.2 (by omega)⟩⟩
     ·by_cases h0 : 0 < i
      ·exact .inr (.inl ⟨⟨eq_false (by omega), eq_false (by omega), eq_false h9, beq_eq_false_iff_ne.2 (by omega)⟩, eq_true (by omega), eq_true (by omega), ⟨eq_false (by omega), beq_eq_false_iff_ne.2 (by omega)⟩⟩)
      ·exact .inr (.inr ⟨⟨eq_false (by omega), eq_false (by omega), eq_false h9, beq_eq_false_iff_ne.2 (by omega)⟩, eq_false (by omega), eq_false (by omega)⟩)
    by_cases h8 : c < 128
    ·have hR : RR = ((gstep n c i, none), r) := HR.out.symm.trans (groupsI_end hE h8)
     subst hR
     have hp8 : (c < 128) = True := eq_true h8
     clear hE hc HR hi h8
     rcases hp with ⟨⟨hp1, hq1, hr1, hb1⟩, hp2, hp3, hp4, ⟨hp5, hcb⟩⟩ | ⟨⟨hp1, hq1, hr1, hb1⟩, hp3, hp4, ⟨hp5, hcb⟩⟩ | ⟨⟨hp1, hq1, hr1, hb1⟩, hp3, hp4⟩
     all_goals
      go_wp2_with (first
       | (go_at_call 96; go_loud (refine (octet_calls w0 _ g (c :: r) HSC1.out).mono ?_; rintro e w1 ⟨rfl, h1, h2⟩; have H1 := Aside0.mk h1; have H2 := Aside0.mk (HK1.out.then_ h2 (fun _ h_ => .inl h_)); clear h1 h2; simp only [octetI, errF_none])))
      go_ret2
      exact ⟨by first | rfl | (rw [HIM.out]; rfl), H1.out, H2.out⟩
    ·have hR := (groupsI_on hE h8).symm.trans HR.out
     have HR2 := Aside0.mk hR
     have hi9 : i < 9 := by
      by_cases h9 : i = 9
      ·omega
      ·omega
     have HW := Aside0.mk (groups_next hi9)
     have HI := Aside0.mk hi9
     have hp8 : (c < 128) = False := eq_false h8
     clear hE hc HR hi h8 hi9 hR
     rcases hp with ⟨⟨hp1, hq1, hr1, hb1⟩, hp2, hp3, hp4, ⟨hp5, hcb⟩⟩ | ⟨⟨hp1, hq1, hr1, hb1⟩, hp3, hp4, ⟨hp5, hcb⟩⟩ | ⟨⟨hp1, hq1, hr1, hb1⟩, hp3, hp4⟩
     all_goals
      go_wp2_with (first
       | (go_at_call 96; go_loud (refine (octet_calls w0 _ g (c :: r) HSC1.out).mono ?_; rintro e w1 ⟨rfl, h1, h2⟩; have H1 := Aside0.mk h1; have H2 := Aside0.mk (HK1.out.then_ h2 (fun _ h_ => .inl h_)); clear h1 h2; simp only [octetI, errF_none])))
      have hi9 := HI.out
      refine ⟨⟨i + 1, gstep n c i, r, by omega, by rw [HW.out], by first | rfl | (rw [HIM.out]; rfl), HR2, H1, H2⟩, by rw [HW.out]; simp only [intOf]; omega⟩
theorem octet_at {w0 W : World} {g : Nat} {l r : List Int} {x : Int} {er : Option Int} (hs : Sc w0 W g l) (h : octetI l = ((x, er), r)) : Calls Tryz.prog 96 #[.pointer (some ⟨g, 0, none⟩)] W fun e w' => e = .returned (.tuple #[.int .i64 x, errF er]) ∧ Sc w0 w' g r ∧ Kept W w' (fun k => k = g) := by
 have := octet_calls w0 W g l hs
 rwa [h] at this
theorem count_at {w0 W : World} {g : Nat} {l r : List Int} {x most : Int} {er : Option Int} (hs : Sc w0 W g l) (h : countI most l = ((x, er), r)) : Calls Tryz.prog 111 #[.pointer (some ⟨g, 0, none⟩), .int .i64 most] W fun e w' => e = .returned (.tuple #[.int .i64 x, errF er]) ∧ Sc w0 w' g r ∧ Kept W w' (fun k => k = g) := by
 have := count_calls w0 W g most l hs
 rwa [h] at this
theorem groups_at {w0 W : World} {g : Nat} {l r : List Int} {x : Int} {er : Option Int} (hs : Sc w0 W g l) (h : groupsI 0 0 l = ((x, er), r)) : Calls Tryz.prog 112 #[.pointer (some ⟨g, 0, none⟩)] W fun e w' => e = .returned (.tuple #[.int .u64 x, errF er]) ∧ Sc w0 w' g r ∧ Kept W w' (fun k => k = g) := by
 have := groups_calls w0 W g l hs
 rwa [h] at this
theorem Sc.moved2 {w0 W W' : World} {g b : Nat} {l : List Int} (h : Sc w0 W g l) (hb : Below b W W') (hg : g < b) : Sc w0 W' g l := by
 obtain ⟨h1, h2, h3, A, c, h4, h5⟩ := h
 exact ⟨h1, h2.trans (Below.mono hb (by omega)), h3, A, c, (hb.block g hg).trans h4, h5⟩
theorem kept_below {W W1 W2 : World} {g : Nat} (h : Kept W W1 (fun k => k = g)) (hb : Below W.heap.size W1 W2) : Kept W W2 (fun k => k = g) := ⟨Nat.le_trans h.1 hb.size, fun i hi hne => (hb.block i hi).trans (h.2 i hi hne)⟩
def unz (m : Int) : Int := bits BinOp.xor IntKind.i64 (wrap64 (m / 2)) (wrap64 (-(wrap64 (bits BinOp.and IntKind.u64 m 1))))
def numsLoop : Nat → List Int → List Int → (List Int × Option Int) × List Int
 | 0, acc, l => ((acc, none), l)
 | d + 1, acc, l => if (groupsI 0 0 l).1.2 = none then numsLoop d (acc ++ [unz (groupsI 0 0 l).1.1]) (groupsI 0 0 l).2 else ((acc ++ [unz (groupsI 0 0 l).1.1], (groupsI 0 0 l).1.2), (groupsI 0 0 l).2)
def numsGo (er : Option Int) (d : Nat) (acc l : List Int) : (List Int × Option Int) × List Int := if er = none then numsLoop d acc l else ((acc, er), l)
def numsI (l : List Int) : (List Int × Option Int) × List Int := numsGo (countI 64 l).1.2 (countI 64 l).1.1.toNat [] (countI 64 l).2
theorem numsGo_next {d : Nat} {acc l l2 : List Int} {m : Int} {er : Option Int} (h : groupsI 0 0 l = ((m, er), l2)) : numsGo none (d + 1) acc l = numsGo er d (acc ++ [unz m]) l2 := by
 unfold numsGo
 rw [if_pos rfl, numsLoop, h]
theorem countI_le {most : Int} {l r : List Int} {n : Int} (h : countI most l = ((n, none), r)) : n ≤ most := by
 unfold countI at h
 split at h
 ·simp at h
 ·rename_i hc
  by_cases hle : n ≤ most
  ·exact hle
  ·rw [h] at hc
   exact absurd ⟨rfl, by simpa using hle⟩ hc
theorem countI_nonneg {most : Int} {l r : List Int} {n : Int} {er : Option Int} (ho : oct5 l = true) (h : countI most l = ((n, er), r)) : 0 ≤ n := by
 have h2 : n = (octetI l).1.1 := by
  unfold countI at h
  split at h
  ·exact (congrArg (fun x => x.1.1) h).symm
  ·exact (congrArg (fun x => x.1.1) h).symm
 rw [h2]
 cases l with
 | nil => exact Int.le_refl _
 | cons x r => exact (oct5_at ho (List.mem_cons_self)).1
theorem nat_next {i : Nat} (h : i < 4096) : wrap64 ((i : Int) + 1) = ((i + 1 : Nat) : Int) := by unfold wrap64; omega
set_option maxHeartbeats 8000000 in
set_option maxRecDepth 100000 in
theorem nums_calls (w0 W : World) (g : Nat) (l : List Int) (hs : Sc w0 W g l) : Calls Tryz.prog 97 #[.pointer (some ⟨g, 0, none⟩)] W fun e w' => ∃ v, e = .returned (.tuple #[v, errF (numsI l).1.2]) ∧ Kd.R (Kd.int .i64) 3 w' W.heap.size (fun _ => True) v (numsI l).1.1 ∧ (numsI l).1.1.length ≤ 64 ∧ Sc w0 w' g (numsI l).2 ∧ Kept W w' (fun k => k = g) := by
 obtain ⟨⟨⟨n, er⟩, l1⟩, hc⟩ : ∃ x, x = countI 64 l := ⟨_, rfl⟩
 have hn0 := countI_nonneg hs.oct hc.symm
 obtain ⟨N, hN⟩ : ∃ N : Nat, (N : Int) = n := ⟨n.toNat, by omega⟩
 have hN64 : er = none → N ≤ 64 := by
  rintro rfl
  have := countI_le hc.symm
  omega
 obtain ⟨RR, hRR⟩ : ∃ RR, RR = numsI l := ⟨_, rfl⟩
 rw [← hRR]
 have HRR := Aside0.mk (show numsGo er N [] l1 = RR by rw [hRR]; unfold numsI; rw [← hc, ← hN, Int.toNat_natCast])
 rw [← hN] at hc
 have HC := Aside0.mk hc.symm
 have HN64 := Aside0.mk hN64
 have HGL := Aside0.mk hs.lt
 have HSC := Aside0.mk hs
 clear hs hRR hc hN hN64 hn0
 go_enter Tryz.func97, Tryz.ntmps97
 go_wp2_with (first
  | (go_at_call 111; go_loud (refine (count_at HSC.out HC.out).mono ?_; rintro e w1 ⟨rfl, h1, h2⟩; have H1 := Aside0.mk h1; have H2 := Aside0.mk h2; clear h1 h2)))
 go_loopw [5, 6, 7] (fun v5 v6 v7 W1 => ∃ (i : Nat) (er : Option Int) (acc l2 : List Int), v7 = .int .i64 (i : Int) ∧ v5 = errF er ∧ Aside0 (er = none → i ≤ N ∧ N ≤ 64) ∧ Aside0 (numsGo er (N - i) acc l2 = RR) ∧ Aside0 (acc.length = i ∧ i ≤ 64) ∧ Aside0 (Kd.R (Kd.int .i64) 3 W1 W.heap.size (fun k => W.heap.size ≤ k) v6 acc) ∧ Aside0 (Sc w0 W1 g l2) ∧ Aside0 (Kept W W1 (fun k => k = g))) (fun _ _ v7 _ => 100 - (intOf v7).toNat)
 case atStart => exact ⟨0, er, [], l1, rfl, rfl, ⟨fun h => ⟨Nat.zero_le _, HN64.out h⟩⟩, HRR, ⟨rfl, by omega⟩, ⟨Kd.R_nil _ _ _ _ _⟩, H1, H2⟩
 case round =>
  obtain ⟨i, er, acc, l2, rfl, rfl, HI, HR, HA, HO, HS, HK⟩ := hrel
  clear HRR H1 H2 HC HSC HN64
  cases er with
  | some c =>
   have hR : RR = ((acc, some c), l2) := HR.out.symm
   subst hR
   simp only [errF_some]
   go_wp2
   go_ret2
   exact ⟨_, rfl, Kd.R_mono HO.out (fun _ _ => trivial), by have := HA.out; omega, HS.out, HK.out⟩
  | none =>
   simp only [errF_none]
   by_cases hlt : i < N
   ·have hp : ((i : Int) < (N : Int)) = True := eq_true (by omega)
    have hp2 : (i < N) = True := eq_true hlt
    have hd : decide ((i : Int) < (N : Int)) = true := decide_eq_true (by omega)
    obtain ⟨⟨⟨m, er2⟩, l3⟩, hg⟩ : ∃ x, x = groupsI 0 0 l2 := ⟨_, rfl⟩
    have hR := HR.out
    have hd1 : N - i = (N - (i + 1)) + 1 := by omega
    rw [hd1, numsGo_next hg.symm] at hR
    have HR2 := Aside0.mk hR
    have HG := Aside0.mk hg.symm
    have h64 := HI.out rfl
    have HW := Aside0.mk (nat_next (i := i) (by omega))
    have HLT := Aside0.mk (show i < N ∧ N ≤ 64 from ⟨hlt, h64.2⟩)
    have HLEN := Aside0.mk (show (acc.length + 1) * 8 ≤ 140737488355328 by have := HA.out; omega)
    clear hR hg hd1 HR hlt h64
    go_wp2_with (first
     | (go_at_call 112; go_loud (refine (groups_at HS.out HG.out).mono ?_; rintro e w2 ⟨rfl, h1, h2⟩; have H1 := Aside0.mk h1; have HO2 := Aside0.mk (Kd.R_kept HO.out h2 (fun k_ h1_ h2_ => by have := HGL.out; omega)); have HK2 := Aside0.mk (HK.out.then_ h2 (fun _ h_ => .inl h_)); clear h1 h2))
     | ((with_reducible refine gate_builtin (b := .append) (xs := #[.tmp 28, .tmp 37]) rfl ?_); at_builtin; go_loud (refine Kd.R_append (Kd.int .i64) (w0 := w2) W.heap.size rfl (.tmp 28) (.tmp 37) 49 3 (.int .i64 0) 8 rfl Tryz.underlying49 info3 rfl (by decide) (by omega) u6 acc (unz m) [.int .i64 (unz m)] (fun k => W.heap.size ≤ k) (fun _ => False) rfl (by first | (go_simp; done) | (go_simp; rfl)) rfl (fun _ hk => hk.elim) (fun k hk => Nat.le_trans HK2.out.1 hk) HO2.out (Below.refl _ _) HK2.out.1 HLEN.out ?_); intro v3 w3 ho hb hg_ hat; have HO3 := Aside0.mk ho; have HB3 := Aside0.mk hb; clear ho hb hg_ hat))
    trace_state
    have hlt := HLT.out
    refine ⟨⟨i + 1, er2, acc ++ [unz m], l3, by rw [HW.out], rfl, ⟨fun _ => by omega⟩, HR2, ⟨by rw [List.length_append, HA.out.1]; rfl, by omega⟩, HO3, ⟨H1.out.moved2 HB3.out HGL.out⟩, ⟨kept_below HK2.out HB3.out⟩⟩, by rw [HW.out]; simp only [intOf]; omega⟩
   ·have hp : ((i : Int) < (N : Int)) = False := eq_false (by omega)
    have hp2 : (i < N) = False := eq_false hlt
    have hd : decide ((i : Int) < (N : Int)) = false := decide_eq_false (by omega)
    have hR : RR = ((acc, none), l2) := by
     rw [← HR.out, show N - i = 0 by omega]
     rfl
    subst hR
    clear hlt
    go_wp2
    go_ret2
    exact ⟨_, rfl, Kd.R_mono HO.out (fun _ _ => trivial), by have := HA.out; omega, HS.out, HK.out⟩
theorem gstep_nonneg (n c : Int) (i : Nat) : 0 ≤ gstep n c i := by
 unfold gstep bits
 exact wrap_u64_nonneg _
theorem groupsI_nonneg : ∀ (l : List Int) (i : Nat) (n : Int), 0 ≤ (groupsI i n l).1.1 := by
 intro l
 induction l with
 | nil => intro i n; exact Int.le_refl _
 | cons c r ih =>
  intro i n
  rw [groupsI]
  split
  ·exact Int.le_refl _
  ·split
   ·exact gstep_nonneg _ _ _
   ·exact ih _ _
def textI (l : List Int) : (List Int × Option Int) × List Int :=
 if (groupsI 0 0 l).1.2 = none then (if 4096 < (groupsI 0 0 l).1.1 then (([], some 5), (groupsI 0 0 l).2) else takeI (groupsI 0 0 l).1.1.toNat (groupsI 0 0 l).2) else (([], (groupsI 0 0 l).1.2), (groupsI 0 0 l).2)
theorem take_at {w0 W : World} {g n : Nat} {l y r : List Int} {er : Option Int} (hs : Sc w0 W g l) (hn : n ≤ 1099511627776) (h : takeI n l = ((y, er), r)) : Calls Tryz.prog 110 #[.pointer (some ⟨g, 0, none⟩), .int .i64 (n : Int)] W fun e w' => ∃ A c, e = .returned (.tuple #[.slice A y.length c, errF er]) ∧ y.length ≤ c ∧ Kd.C (Kd.int .u8) w0 A y.length y ∧ Sc w0 w' g r ∧ Kept W w' (fun k => k = g) := by
 have := take_calls w0 W g n l hs hn
 rwa [h] at this
theorem takeI_len {n : Nat} {l y r : List Int} {er : Option Int} (h : takeI n l = ((y, er), r)) : y.length ≤ n := by
 unfold takeI at h
 split at h
 ·simp only [Prod.mk.injEq] at h
  rw [← h.1.1]; exact Nat.zero_le _
 ·simp only [Prod.mk.injEq] at h
  rw [← h.1.1, List.length_take]; omega
set_option maxHeartbeats 8000000 in
set_option maxRecDepth 100000 in
theorem text_calls (w0 W : World) (g : Nat) (l : List Int) (hs : Sc w0 W g l) : Calls Tryz.prog 113 #[.pointer (some ⟨g, 0, none⟩)] W fun e w' => ∃ v, e = .returned (.tuple #[v, errF (textI l).1.2]) ∧ Kd.R (Kd.int .u8) 5 w' W.heap.size (fun _ => True) v (textI l).1.1 ∧ (textI l).1.1.length ≤ 4096 ∧ Sc w0 w' g (textI l).2 ∧ Kept W w' (fun k => k = g) := by
 obtain ⟨⟨⟨m, er⟩, l1⟩, hg⟩ : ∃ x, x = groupsI 0 0 l := ⟨_, rfl⟩
 have hm0 : 0 ≤ m := by
  have := groupsI_nonneg l 0 0
  rwa [← hg] at this
 obtain ⟨RR, hRR⟩ : ∃ RR, RR = textI l := ⟨_, rfl⟩
 rw [← hRR]
 have hR : RR = if er = none then (if 4096 < m then (([], some 5), l1) else takeI m.toNat l1) else (([], er), l1) := by rw [hRR]; unfold textI; rw [← hg]
 have HG := Aside0.mk hg.symm
 have HSC := Aside0.mk hs
 have HGL := Aside0.mk hs.lt
 clear hs hg hRR
 cases er with
 | some c =>
  rw [if_neg (by simp)] at hR
  subst hR
  go_enter Tryz.func113, Tryz.ntmps113
  go_wp2_with (first
   | (go_at_call 112; go_loud (refine (groups_at HSC.out HG.out).mono ?_; rintro e w1 ⟨rfl, h1, h2⟩; have H1 := Aside0.mk h1; have H2 := Aside0.mk h2; clear h1 h2; simp only [errF_some])))
  go_ret2
  exact ⟨_, rfl, Kd.R_nil _ _ _ _ _, Nat.zero_le _, H1.out, H2.out⟩
 | none =>
  rw [if_pos rfl] at hR
  by_cases hbig : 4096 < m
  ·rw [if_pos hbig] at hR
   subst hR
   have hp : (4096 < m) = True := eq_true hbig
   have hd : decide (4096 < m) = true := decide_eq_true hbig
   clear hbig
   go_enter Tryz.func113, Tryz.ntmps113
   go_wp2_with (first
    | (go_at_call 112; go_loud (refine (groups_at HSC.out HG.out).mono ?_; rintro e w1 ⟨rfl, h1, h2⟩; have H1 := Aside0.mk h1; have H2 := Aside0.mk h2; clear h1 h2; simp only [errF_none])))
   go_ret2
   exact ⟨_, rfl, Kd.R_nil _ _ _ _ _, Nat.zero_le _, H1.out, H2.out⟩
  ·rw [if_neg hbig] at hR
   obtain ⟨M, rfl⟩ : ∃ M : Nat, m = (M : Int) := ⟨m.toNat, by omega⟩
   rw [Int.toNat_natCast] at hR
   obtain ⟨⟨⟨y, er2⟩, l2⟩, ht⟩ : ∃ x, x = takeI M l1 := ⟨_, rfl⟩
   have hyl := takeI_len ht.symm
   have hR2 : RR = ((y, er2), l2) := by rw [hR, ht]
   subst hR2
   have hp : (4096 < (M : Int)) = False := eq_false hbig
   have hp2 : (4096 < M) = False := eq_false (by omega)
   have hd : decide (4096 < (M : Int)) = false := decide_eq_false hbig
   have hw : wrap64 (M : Int) = (M : Int) := by unfold wrap64; omega
   have HM := Aside0.mk (show M ≤ 4096 by omega)
   have HT := Aside0.mk ht.symm
   have HYL := Aside0.mk hyl
   have HCL := Aside0.mk (show bytes_Clone.f y = some y by unfold bytes_Clone.f; rw [if_pos (by omega)])
   clear hbig ht hyl hR hm0
   go_enter Tryz.func113, Tryz.ntmps113
   go_wp2_with (first
    | (go_at_call 112; go_loud (refine (groups_at HSC.out HG.out).mono ?_; rintro e w1 ⟨rfl, h1, h2⟩; have H1 := Aside0.mk h1; have H2 := Aside0.mk h2; clear h1 h2; simp only [errF_none]))
    | (go_at_call 110; go_loud (first | rw [hw] | skip); go_loud (refine (take_at H1.out (by have := HM.out; omega) HT.out).mono ?_; rintro e w2 ⟨A, c, rfl, hc, hC, h1, h2⟩; have H3 := Aside0.mk h1; have HC := Aside0.mk hC; have HCC := Aside0.mk hc; have H4 := Aside0.mk (H2.out.then_ h2 (fun _ h_ => .inl h_)); clear h1 h2 hc hC))
    | (go_at_call 51; go_loud (refine (bytes_Clone.calls A c y y _ (Kd.C_below HC.out H3.out.below) HCC.out HCL.out).mono ?_; rintro e w3 ⟨v3, rfl, ho, hb⟩; have HO := Aside0.mk ho; have HB := Aside0.mk hb; clear ho hb)))
   go_ret2
   exact ⟨_, rfl, Kd.R_lower HO.out H4.out.1, by have := HYL.out; have := HM.out; show y.length ≤ 4096; omega, H3.out.moved HB.out, kept_below H4.out (Below.mono HB.out H4.out.1)⟩
def textsLoop : Nat → List (List Int) → List Int → (List (List Int) × Option Int) × List Int
 | 0, acc, l => ((acc, none), l)
 | d + 1, acc, l => if (textI l).1.2 = none then textsLoop d (acc ++ [(textI l).1.1]) (textI l).2 else ((acc ++ [(textI l).1.1], (textI l).1.2), (textI l).2)
def textsGo (er : Option Int) (d : Nat) (acc : List (List Int)) (l : List Int) : (List (List Int) × Option Int) × List Int := if er = none then textsLoop d acc l else ((acc, er), l)
def textsI (l : List Int) : (List (List Int) × Option Int) × List Int := textsGo (countI 64 l).1.2 (countI 64 l).1.1.toNat [] (countI 64 l).2
theorem textsGo_next {d : Nat} {acc : List (List Int)} {l l2 t : List Int} {er : Option Int} (h : textI l = ((t, er), l2)) : textsGo none (d + 1) acc l = textsGo er d (acc ++ [t]) l2 := by
 unfold textsGo
 rw [if_pos rfl, textsLoop, h]
theorem text_at {w0 W : World} {g : Nat} {l r t : List Int} {er : Option Int} (hs : Sc w0 W g l) (h : textI l = ((t, er), r)) : Calls Tryz.prog 113 #[.pointer (some ⟨g, 0, none⟩)] W fun e w' => ∃ v, e = .returned (.tuple #[v, errF er]) ∧ Kd.R (Kd.int .u8) 5 w' W.heap.size (fun _ => True) v t ∧ t.length ≤ 4096 ∧ Sc w0 w' g r ∧ Kept W w' (fun k => k = g) := by
 have := text_calls w0 W g l hs
 rwa [h] at this
set_option maxHeartbeats 8000000 in
set_option maxRecDepth 100000 in
theorem texts_calls (w0 W : World) (g : Nat) (l : List Int) (hs : Sc w0 W g l) : Calls Tryz.prog 98 #[.pointer (some ⟨g, 0, none⟩)] W fun e w' => ∃ v, e = .returned (.tuple #[v, errF (textsI l).1.2]) ∧ Kd.S (Kd.slice 5 (Kd.int .u8)) 41 w' W.heap.size (fun _ => True) v (textsI l).1.1 ∧ (textsI l).1.1.length ≤ 64 ∧ Sc w0 w' g (textsI l).2 ∧ Kept W w' (fun k => k = g) := by
 obtain ⟨⟨⟨n, er⟩, l1⟩, hc⟩ : ∃ x, x = countI 64 l := ⟨_, rfl⟩
 have hn0 := countI_nonneg hs.oct hc.symm
 obtain ⟨N, hN⟩ : ∃ N : Nat, (N : Int) = n := ⟨n.toNat, by omega⟩
 have hN64 : er = none → N ≤ 64 := by
  rintro rfl
  have := countI_le hc.symm
  omega
 obtain ⟨RR, hRR⟩ : ∃ RR, RR = textsI l := ⟨_, rfl⟩
 rw [← hRR]
 have HRR := Aside0.mk (show textsGo er N [] l1 = RR by rw [hRR]; unfold textsI; rw [← hc, ← hN, Int.toNat_natCast])
 rw [← hN] at hc
 have HC := Aside0.mk hc.symm
 have HN64 := Aside0.mk hN64
 have HGL := Aside0.mk hs.lt
 have HSC := Aside0.mk hs
 clear hs hRR hc hN hN64 hn0
 go_enter Tryz.func98, Tryz.ntmps98
 go_wp2_with (first
  | (go_at_call 111; go_loud (refine (count_at HSC.out HC.out).mono ?_; rintro e w1 ⟨rfl, h1, h2⟩; have H1 := Aside0.mk h1; have H2 := Aside0.mk h2; clear h1 h2)))
 go_loopw [5, 6, 7] (fun v5 v6 v7 W1 => ∃ (i : Nat) (er : Option Int) (acc : List (List Int)) (l2 : List Int), v7 = .int .i64 (i : Int) ∧ v5 = errF er ∧ Aside0 (er = none → i ≤ N ∧ N ≤ 64) ∧ Aside0 (textsGo er (N - i) acc l2 = RR) ∧ Aside0 (acc.length = i ∧ i ≤ 64) ∧ Aside0 (Kd.S (Kd.slice 5 (Kd.int .u8)) 41 W1 W.heap.size (fun k => W.heap.size ≤ k) v6 acc) ∧ Aside0 (Sc w0 W1 g l2) ∧ Aside0 (Kept W W1 (fun k => k = g))) (fun _ _ v7 _ => 100 - (intOf v7).toNat)
 case atStart => exact ⟨0, er, [], l1, rfl, rfl, ⟨fun h => ⟨Nat.zero_le _, HN64.out h⟩⟩, HRR, ⟨rfl, by omega⟩, ⟨Kd.S_nil _ _ _ _ _⟩, H1, H2⟩
 case round =>
  obtain ⟨i, er, acc, l2, rfl, rfl, HI, HR, HA, HO, HS, HK⟩ := hrel
  clear HRR H1 H2 HC HSC HN64
  cases er with
  | some c =>
   have hR : RR = ((acc, some c), l2) := HR.out.symm
   subst hR
   simp only [errF_some]
   go_wp2
   go_ret2
   exact ⟨_, rfl, Kd.S_mono HO.out (fun _ _ => trivial), by have := HA.out; omega, HS.out, HK.out⟩
  | none =>
   simp only [errF_none]
   by_cases hlt : i < N
   ·have hp : ((i : Int) < (N : Int)) = True := eq_true (by omega)
    have hp2 : (i < N) = True := eq_true hlt
    have hd : decide ((i : Int) < (N : Int)) = true := decide_eq_true (by omega)
    obtain ⟨⟨⟨t, er2⟩, l3⟩, hg⟩ : ∃ x, x = textI l2 := ⟨_, rfl⟩
    have hR := HR.out
    have hd1 : N - i = (N - (i + 1)) + 1 := by omega
    rw [hd1, textsGo_next hg.symm] at hR
    have HR2 := Aside0.mk hR
    have HG := Aside0.mk hg.symm
    have h64 := HI.out rfl
    have HW := Aside0.mk (nat_next (i := i) (by omega))
    have HLT := Aside0.mk (show i < N ∧ N ≤ 64 from ⟨hlt, h64.2⟩)
    have HLEN := Aside0.mk (show (acc.length + 1) * 24 ≤ 140737488355328 by have := HA.out; omega)
    clear hR hg hd1 HR hlt h64
    go_wp2_with (first
     | (go_at_call 113; go_loud (refine (text_at HS.out HG.out).mono ?_; rintro e w2 ⟨v2, rfl, ho, hl_, h1, h2⟩; obtain ⟨A2, c2, rfl⟩ := Kd.R_slice ho; have H1 := Aside0.mk h1; have HT := Aside0.mk ho; have HO2 := Aside0.mk (Kd.S_mono (ok' := fun k => W.heap.size ≤ k ∧ k < wr.heap.size) (Kd.S_kept (Kd.S_bound HO.out) h2 (fun k_ h1_ h2_ => by have h3_ := HGL.out; have h4_ := h1_.1; omega)) (fun k h => ⟨h.1, h.2.2.1⟩)); have HK2 := Aside0.mk (HK.out.then_ h2 (fun _ h_ => .inl h_)); have HZ := Aside0.mk h2.1; clear h1 h2 ho hl_))
     | ((with_reducible refine gate_builtin (b := .append) (xs := #[.tmp 28, .tmp 30]) rfl ?_); at_builtin; go_loud (refine Kd.S_append (Kd.slice 5 (Kd.int .u8)) (w0 := w2) W.heap.size rfl (.tmp 28) (.tmp 30) 26 41 (.slice none 0 0) 24 rfl Tryz.underlying26 info41 rfl (by decide) (by omega) u6 acc t [.slice A2 t.length c2] (fun k => W.heap.size ≤ k) (fun k_ => some k_ = (.slice A2 t.length c2 : Value).ownBlock) rfl rfl ?aP ?aK ?aF ?aO ?aB ?aS ?aL ?_); (case aP => exact Kd.M_row (Kd.R_tight rfl (Kd.R_lower HT.out HK.out.1))); (case aK => exact fun k_ hk_ => ⟨Nat.le_trans HK.out.1 (Kd.R_base HT.out k_ hk_.symm), fun e_ => by have h1_ := Kd.R_base HT.out k_ hk_.symm; have h2_ := Kd.S_lt HO.out k_ e_.symm; omega⟩); (case aF => exact fun k hk => Nat.le_trans HK2.out.1 hk); (case aO => exact Kd.S_mono HO2.out (fun k hk => ⟨hk.1, fun e_ => by have h1_ := Kd.R_base HT.out k e_.symm; have h2_ := hk.2; omega⟩)); (case aB => exact Below.refl _ _); (case aS => exact HK2.out.1); (case aL => exact HLEN.out); intro v3 w3 ho hb hg_ hat; have HO3 := Aside0.mk ho; have HB3 := Aside0.mk hb; clear ho hb hg_ hat))
    have hlt := HLT.out
    refine ⟨⟨i + 1, er2, acc ++ [t], l3, by rw [HW.out], rfl, ⟨fun _ => by omega⟩, HR2, ⟨by rw [List.length_append, HA.out.1]; rfl, by omega⟩, HO3, ⟨H1.out.moved2 HB3.out HGL.out⟩, ⟨kept_below HK2.out HB3.out⟩⟩, by rw [HW.out]; simp only [intOf]; omega⟩
   ·have hp : ((i : Int) < (N : Int)) = False := eq_false (by omega)
    have hp2 : (i < N) = False := eq_false hlt
    have hd : decide ((i : Int) < (N : Int)) = false := decide_eq_false (by omega)
    have hR : RR = ((acc, none), l2) := by
     rw [← HR.out, show N - i = 0 by omega]
     rfl
    subst hR
    clear hlt
    go_wp2
    go_ret2
    exact ⟨_, rfl, Kd.S_mono HO.out (fun _ _ => trivial), by have := HA.out; omega, HS.out, HK.out⟩
inductive RecI
 | bad (e : Int)
 | good (k : Int) (n : List Int) (t : List (List Int))
def recI (l : List Int) : RecI :=
 match (octetI l).1.2 with
 | some e => .bad e
 | none => match (numsI (octetI l).2).1.2 with
  | some e => .bad e
  | none => match (textsI (numsI (octetI l).2).2).1.2 with
   | some e => .bad e
   | none => if 0 < (textsI (numsI (octetI l).2).2).2.length then .bad 23 else .good (octetI l).1.1 (numsI (octetI l).2).1.1 (textsI (numsI (octetI l).2).2).1.1
theorem nums_at {w0 W : World} {g : Nat} {l r n : List Int} {er : Option Int} (hs : Sc w0 W g l) (h : numsI l = ((n, er), r)) : Calls Tryz.prog 97 #[.pointer (some ⟨g, 0, none⟩)] W fun e w' => ∃ v, e = .returned (.tuple #[v, errF er]) ∧ Kd.R (Kd.int .i64) 3 w' W.heap.size (fun _ => True) v n ∧ n.length ≤ 64 ∧ Sc w0 w' g r ∧ Kept W w' (fun k => k = g) := by
 have := nums_calls w0 W g l hs
 rwa [h] at this
theorem texts_at {w0 W : World} {g : Nat} {l r : List Int} {t : List (List Int)} {er : Option Int} (hs : Sc w0 W g l) (h : textsI l = ((t, er), r)) : Calls Tryz.prog 98 #[.pointer (some ⟨g, 0, none⟩)] W fun e w' => ∃ v, e = .returned (.tuple #[v, errF er]) ∧ Kd.S (Kd.slice 5 (Kd.int .u8)) 41 w' W.heap.size (fun _ => True) v t ∧ t.length ≤ 64 ∧ Sc w0 w' g r ∧ Kept W w' (fun k => k = g) := by
 have := texts_calls w0 W g l hs
 rwa [h] at this
theorem kept_set {w W : World} {S : Nat → Prop} (h : Kept w W S) {p : Addr} (hp : w.heap.size ≤ p.block) (v : Value) : Kept w (W.setCell p v) S := ⟨by rw [show (W.setCell p v).heap.size = W.heap.size by simp [World.setCell]]; exact h.1, fun i hi hn => (Below.heap_setCell _ _ _ _ (by omega)).trans (h.2 i hi hn)⟩
theorem Sc.set {w0 W : World} {g : Nat} {l : List Int} (h : Sc w0 W g l) {p : Addr} (hp : g ≠ p.block) (hw : w0.heap.size ≤ p.block) (v : Value) : Sc w0 (W.setCell p v) g l := by
 obtain ⟨h1, h2, h3, A, c, h4, h5⟩ := h
 exact ⟨h1, h2.setCell hw v, h3, A, c, (Below.heap_setCell _ _ _ _ hp).trans h4, h5⟩
theorem R_set {α : Type} {d : Kd α} {e : Nat} {W : World} {base : Nat} {ok : Nat → Prop} {v x : Value} {xs : List α} (h : Kd.R d e W base ok v xs) {p : Addr} (hp : p.block < base) : Kd.R d e (W.setCell p x) base ok v xs :=
 Kd.R_mono (Kd.R_step (Kd.R_bound h) (fun k hk _ => Below.heap_setCell _ _ _ _ (by have := hk.2.1; omega))) (fun _ hk => hk.1)
theorem S_set {α : Type} {d : Kd α} {e : Nat} {W : World} {base : Nat} {ok : Nat → Prop} {v x : Value} {xs : List α} (h : Kd.S d e W base ok v xs) {p : Addr} (hp : p.block < base) : Kd.S d e (W.setCell p x) base ok v xs :=
 Kd.S_mono (Kd.S_step (Kd.S_bound h) (fun k hk _ => Below.heap_setCell _ _ _ _ (by have := hk.2.1; omega))) (fun _ hk => hk.1)
set_option maxHeartbeats 8000000 in
set_option maxRecDepth 100000 in
theorem record_good (w0 W : World) (g : Nat) (l l1 l2 l3 n : List Int) (t : List (List Int)) (k : Int) (hs : Sc w0 W g l) (h1 : octetI l = ((k, none), l1)) (h2 : numsI l1 = ((n, none), l2)) (h3 : textsI l2 = ((t, none), l3)) (h4 : l3.length = 0) : Calls Tryz.prog 85 #[.pointer (some ⟨g, 0, none⟩)] W fun e w' => ∃ v1 v2, e = .returned (.tuple #[.agg #[.int .i64 k, v1, v2], .nilIface]) ∧ Kd.R (Kd.int .i64) 3 w' W.heap.size (fun _ => True) v1 n ∧ Kd.S (Kd.slice 5 (Kd.int .u8)) 41 w' W.heap.size (fun _ => True) v2 t ∧ n.length ≤ 64 ∧ t.length ≤ 64 ∧ Kept W w' (fun k => k = g) ∧ Below w0.heap.size w0 w' := by
 have A1 := Aside0.mk h1
 have A2 := Aside0.mk h2
 have A3 := Aside0.mk h3
 have A4 := Aside0.mk h4
 have HSC := Aside0.mk hs
 have HGL := Aside0.mk hs.lt
 have hne : (g = W.heap.size) = False := eq_false (by have := HGL.out; omega)
 clear h1 h2 h3 h4 hs
 go_enter Tryz.func85, Tryz.ntmps85
 go_wp2_with (first
  | ((with_reducible refine gate_dst (N := 2) rfl ?_); (try (refine gate_guard (by rfl) ?_; dsimp only)); refine box_event ?hg (N := 2) ?hd (cs := #[.int .i64 0, .slice none 0 0, .slice none 0 0]) (t := 97) ?hr ?_; (case hd => rfl); (case hg => rfl); (case hr => first | (go_simp; done) | (go_simp; rfl)); intro gb hg w1 hbox hb; go_loud (have HG := Aside0.mk hg; have HB1 := Aside0.mk hb; have HBK := Aside0.mk hbox; have HS1 := Aside0.mk (HSC.out.moved hb); clear hb hg hbox))
  | (go_at_call 96; go_loud (refine (octet_at HS1.out A1.out).mono ?_; rintro e w2 ⟨rfl, h1, h2⟩; have HS2 := Aside0.mk h1; have HK2 := Aside0.mk ((Kept.of_below HB1.out (fun k => k = g)).then_ h2 (fun _ h_ => .inl h_)); have HB2 := Aside0.mk (blk_kept HBK.out h2 (fun h_ => by have := HG.out; have := HGL.out; omega)); have hc0 := (blk_cell HB2.out 0).trans rfl; have hc1 := (blk_cell HB2.out 1).trans rfl; have hc2 := (blk_cell HB2.out 2).trans rfl; have hf0 := blk_frozen HB2.out 0; clear h1 h2; simp only [errF_none]))
  | (go_at_call 97; go_loud (obtain ⟨w3, hw⟩ : ∃ W, W = w2.setCell ⟨gb, 0, none⟩ (.int .i64 k) := ⟨_, rfl⟩; rw [← hw]; have HB3 : Aside0 (w3.heap[gb]? = some (.cells #[.int .i64 k, .slice none 0 0, .slice none 0 0] 97 (0, 0))) := ⟨by rw [hw]; exact blk_put HB2.out 0 _ rfl⟩; have HS3 : Aside0 (Sc w0 w3 g l1) := ⟨by rw [hw]; exact HS2.out.set (by have := HG.out; have := HGL.out; show g ≠ gb; omega) (by have := HG.out; have := HGL.out; have := HSC.out.low; show _ ≤ gb; omega) _⟩; have HK3 : Aside0 (Kept W w3 (fun k => k = g)) := ⟨by rw [hw]; exact kept_set HK2.out (Nat.le_of_eq HG.out.symm) _⟩; have HL3 := Aside0.mk (blk_lt HB3.out); clear hw hc0 hc1 hc2 hf0; refine (nums_at HS3.out A2.out).mono ?_; rintro e w4 ⟨v1, rfl, ho, hn, h1, h2⟩; obtain ⟨D1, e1, rfl⟩ := Kd.R_slice ho; have HS4 := Aside0.mk h1; have HO4 := Aside0.mk ho; have HN64 := Aside0.mk hn; have HK4 := Aside0.mk (HK3.out.then_ h2 (fun _ h_ => .inl h_)); have HB4 := Aside0.mk (blk_kept HB3.out h2 (fun h_ => by have := HG.out; have := HGL.out; omega)); have hc0 := (blk_cell HB4.out 0).trans rfl; have hc1 := (blk_cell HB4.out 1).trans rfl; have hc2 := (blk_cell HB4.out 2).trans rfl; have hf1 := blk_frozen HB4.out 1; clear h1 h2 ho hn; simp only [errF_none]))
  | (go_at_call 98; go_loud (obtain ⟨w5, hw⟩ : ∃ W, W = w4.setCell ⟨gb, 1, none⟩ (.slice D1 n.length e1) := ⟨_, rfl⟩; rw [← hw]; have HB5 : Aside0 (w5.heap[gb]? = some (.cells #[.int .i64 k, .slice D1 n.length e1, .slice none 0 0] 97 (0, 0))) := ⟨by rw [hw]; exact blk_put HB4.out 1 _ rfl⟩; have HS5 : Aside0 (Sc w0 w5 g l2) := ⟨by rw [hw]; exact HS4.out.set (by have := HG.out; have := HGL.out; show g ≠ gb; omega) (by have := HG.out; have := HGL.out; have := HSC.out.low; show _ ≤ gb; omega) _⟩; have HK5 : Aside0 (Kept W w5 (fun k => k = g)) := ⟨by rw [hw]; exact kept_set HK4.out (Nat.le_of_eq HG.out.symm) _⟩; have HO5 : Aside0 (Kd.R (Kd.int .i64) 3 w5 w3.heap.size (fun _ => True) (.slice D1 n.length e1) n) := ⟨by rw [hw]; exact R_set HO4.out HL3.out⟩; have HL5 := Aside0.mk (blk_lt HB5.out); clear hw hc0 hc1 hc2 hf1; refine (texts_at HS5.out A3.out).mono ?_; rintro e w6 ⟨v2, rfl, ho, hn, h1, h2⟩; obtain ⟨D2, e2, rfl⟩ := Kd.S_slice ho; have HS6 := Aside0.mk h1; have HO6 := Aside0.mk ho; have HT64 := Aside0.mk hn; have HN6 := Aside0.mk (Kd.R_mono (ok' := fun k_ => w3.heap.size ≤ k_) (Kd.R_kept (Kd.R_mono (ok' := fun k_ => w3.heap.size ≤ k_) (Kd.R_bound HO5.out) (fun _ h_ => h_.2.1)) h2 (fun k_ h1_ h2_ => by have := HG.out; have := HGL.out; have := HL3.out; omega)) (fun _ h_ => h_)); have HK6 := Aside0.mk (HK5.out.then_ h2 (fun _ h_ => .inl h_)); have HB6 := Aside0.mk (blk_kept HB5.out h2 (fun h_ => by have := HG.out; have := HGL.out; omega)); obtain ⟨_, _, _, A, c, hq, hq2, hq3⟩ := h1; have hsc := (blk_cell hq 0).trans rfl; have hc0 := (blk_cell HB6.out 0).trans rfl; have hc1 := (blk_cell HB6.out 1).trans rfl; have hc2 := (blk_cell HB6.out 2).trans rfl; have hf0 := blk_frozen HB6.out 0; have hf1 := blk_frozen HB6.out 1; have hf2 := blk_frozen HB6.out 2; have h40 := A4.out; clear h2 ho hn hq hq2 hq3; simp only [errF_none])))
 have HGB : Aside0 (w0.heap.size ≤ gb) := ⟨by have := HG.out; have := HGL.out; have := HSC.out.low; omega⟩
 refine bodyPost_ret (results_ct rfl _ _ gb 97 _ (0, 0) _ rfl (blk_put (blk_put (blk_put (blk_put HB6.out 2 _ rfl) 0 _ rfl) 1 _ rfl) 2 _ rfl) Tryz.underlying97 rfl (by kernel_rfl)) rfl ?_
 refine ⟨.slice D1 n.length e1, .slice D2 t.length e2, rfl, ?_, ?_, HN64.out, HT64.out, kept_set (kept_set (kept_set (kept_set HK6.out (Nat.le_of_eq HG.out.symm) _) (Nat.le_of_eq HG.out.symm) _) (Nat.le_of_eq HG.out.symm) _) (Nat.le_of_eq HG.out.symm) _, ((((HS6.out.below.setCell HGB.out _).setCell HGB.out _).setCell HGB.out _).setCell HGB.out _)⟩
 ·exact Kd.R_mono (Kd.R_lower (R_set (R_set (R_set (R_set HN6.out HL3.out) HL3.out) HL3.out) HL3.out) HK3.out.1) (fun _ _ => trivial)
 ·exact Kd.S_lower (S_set (S_set (S_set (S_set HO6.out HL5.out) HL5.out) HL5.out) HL5.out) HK5.out.1
theorem rec_good {w0 W : World} {g : Nat} {l n : List Int} {t : List (List Int)} {k : Int} (hs : Sc w0 W g l) (h : recI l = .good k n t) : Calls Tryz.prog 85 #[.pointer (some ⟨g, 0, none⟩)] W fun e w' => ∃ v1 v2, e = .returned (.tuple #[.agg #[.int .i64 k, v1, v2], .nilIface]) ∧ Kd.R (Kd.int .i64) 3 w' W.heap.size (fun _ => True) v1 n ∧ Kd.S (Kd.slice 5 (Kd.int .u8)) 41 w' W.heap.size (fun _ => True) v2 t ∧ n.length ≤ 64 ∧ t.length ≤ 64 ∧ Kept W w' (fun k => k = g) ∧ Below w0.heap.size w0 w' := by
 unfold recI at h
 rcases h1 : octetI l with ⟨⟨x, e1⟩, l1⟩
 rw [h1] at h
 cases e1 with
 | some c => cases h
 | none =>
  simp only at h
  rcases h2 : numsI l1 with ⟨⟨y, e2⟩, l2⟩
  rw [h2] at h
  cases e2 with
  | some c => cases h
  | none =>
   simp only at h
   rcases h3 : textsI l2 with ⟨⟨z, e3⟩, l3⟩
   rw [h3] at h
   cases e3 with
   | some c => cases h
   | none =>
    simp only at h
    by_cases h4 : 0 < l3.length
    ·rw [if_pos h4] at h; cases h
    ·rw [if_neg h4] at h
     cases h
     exact record_good w0 W g l l1 l2 l3 n t k hs h1 h2 h3 (by omega)
def wire_Decode.f (k : Nat) (l : List Int) : Option (Int × List Int × List (List Int) × Int) := (crc_Open.f k l).bind fun q => if q.2 = 0 then (if oct5 q.1 = true then (match recI q.1 with | .good kk n t => some (kk, n, t, 0) | .bad _ => none) else none) else some (0, [], [], q.2)
theorem wire_Decode.mono : ∀ a0 k, LeO (wire_Decode.f k a0) (wire_Decode.f (k + 1) a0) := by
 intro a0 k
 unfold wire_Decode.f
 exact LeO.bind (crc_Open.mono _ k) (fun _ => LeO.refl _)
set_option maxHeartbeats 8000000 in
set_option maxRecDepth 100000 in
theorem decode_good (k : Nat) (A0 : Option Addr) (c0 : Nat) (l q n : List Int) (t : List (List Int)) (kk : Int) (w : World) (hr0 : Kd.C (Kd.int .u8) w A0 l.length l) (hc0 : l.length ≤ c0) (h1 : crc_Open.f k l = some (q, 0)) (ho : oct5 q = true) (h2 : recI q = .good kk n t) :
  Calls Tryz.prog 70 #[.slice A0 l.length c0] w fun e w' => ∃ v1_ v2_ : Value, e = .returned (.tuple #[.agg #[.int .i64 kk, v1_, v2_], .int .i64 0]) ∧ Kd.R (Kd.int .i64) 3 w' w.heap.size (fun _ => True) v1_ n ∧ Kd.S (Kd.slice 5 (Kd.int .u8)) 41 w' w.heap.size (fun _ => True) v2_ t ∧ Below w.heap.size w w' := by
 have HR0 := Aside0.mk hr0
 have HC0 := Aside0.mk hc0
 have A1 := Aside0.mk h1
 have A2 := Aside0.mk h2
 have HO := Aside0.mk ho
 clear hr0 hc0 h1 h2 ho
 go_enter Tryz.func70, Tryz.ntmps70
 go_wp2_with (first
  | ((with_reducible refine gate_dst (N := 2) rfl ?_); (try (refine gate_guard (by rfl) ?_; dsimp only)); refine box_event ?hg (N := 2) ?hd (cs := #[.int .i64 0, .slice none 0 0, .slice none 0 0]) (t := 97) ?hr ?_; (case hd => rfl); (case hg => rfl); (case hr => first | (go_simp; done) | (go_simp; rfl)); intro gb hg w1 hbox hb; go_loud (have HG := Aside0.mk hg; have HB1 := Aside0.mk hb; have HBK := Aside0.mk hbox; have HR1 := Aside0.mk (Kd.C_below HR0.out hb); clear hb hg hbox))
  | (go_at_call 84; go_loud (refine (crc_Open.calls k A0 c0 l q 0 _ HR1.out HC0.out A1.out).mono ?_; rintro e w2 ⟨v2, rfl, ho2, hb2⟩; obtain ⟨D2, e2, rfl⟩ := Kd.R_slice ho2; have HQ2 := Aside0.mk (Kd.R_reads' ho2); have HBB2 := Aside0.mk ((hb2.block _ (blk_lt HBK.out)).trans HBK.out); have HB2 := Aside0.mk (below_step HB1.out hb2); have HZ2 := Aside0.mk hb2.size; clear ho2 hb2))
  | ((with_reducible refine gate_dst (N := 20) rfl ?_); (try (refine gate_guard (by rfl) ?_; dsimp only)); refine box_event ?hg (N := 20) ?hd (cs := #[.slice D2 q.length e2]) (t := 154) ?hr ?_; (case hd => rfl); (case hg => rfl); (case hr => first | (go_simp; done) | (go_simp; rfl)); intro gs hg w3 hbox hb; go_loud (have HGS := Aside0.mk hg; have HB3 := Aside0.mk (below_step HB2.out hb); have HSC := Aside0.mk (Sc.mk (w0 := w2) (W := w3) (g := gs) (l := q) (Nat.le_of_eq hg.symm) hb HO.out ⟨D2, e2, hbox, HQ2.out.2.1, HQ2.out.2.2⟩); have HBB3 := Aside0.mk ((hb.block _ (blk_lt HBB2.out)).trans HBB2.out); have HZ3 := Aside0.mk hb.size; clear hb hg hbox))
  | (go_at_call 85; go_loud (refine (rec_good HSC.out A2.out).mono ?_; rintro e w4 ⟨v1, v2, rfl, hn, ht, hn64, ht64, hk, hbl⟩; obtain ⟨D4, e4, rfl⟩ := Kd.R_slice hn; obtain ⟨F4, f4, rfl⟩ := Kd.S_slice ht; have HN4 := Aside0.mk (Kd.R_bound hn); have HT4 := Aside0.mk (Kd.S_bound ht); have HK4 := Aside0.mk hk; have HBB4 := Aside0.mk (blk_kept HBB3.out hk (fun h_ => by have h1_ := HGS.out; have h2_ := HZ2.out; have h3_ := blk_lt HBK.out; omega)); have HZ4 := Aside0.mk hk.1; have HB4 := Aside0.mk (below_step HB2.out hbl); clear hn ht hn64 ht64 hk hbl))
  | ((with_reducible refine gate_dst (N := 6) rfl ?_); (try (refine gate_guard (by rfl) ?_; dsimp only)); refine box_event ?hg (N := 6) ?hd (cs := #[.int .i64 0, .slice none 0 0, .slice none 0 0]) (t := 97) ?hr ?_; (case hd => rfl); (case hg => rfl); (case hr => first | (go_simp; done) | (go_simp; rfl)); intro gc hg w5 hbox hb; go_loud (have HGC := Aside0.mk hg; have HBC := Aside0.mk hbox; have HB5 := Aside0.mk hb; have hcz0 : w5.cell? ⟨gc, 0, none⟩ = some (.int .i64 0) := (blk_cell HBC.out 0).trans rfl; have hcz1 : w5.cell? ⟨gc, 1, none⟩ = some (.slice none 0 0) := (blk_cell HBC.out 1).trans rfl; have hcz2 : w5.cell? ⟨gc, 2, none⟩ = some (.slice none 0 0) := (blk_cell HBC.out 2).trans rfl; have hfz0 := blk_frozen HBC.out 0; have hfz1 := blk_frozen HBC.out 1; have hfz2 := blk_frozen HBC.out 2; clear hb hg hbox))
  | ((with_reducible refine gate_store (t := 97) (p := 6) rfl ?_); refine store_event (t := 97) (p := 6) (v := ?vo_w21) (w1 := (((w5.setCell ⟨gc, 0, none⟩ (.int .i64 kk)).setCell ⟨gc, 1, none⟩ (.slice D4 n.length e4)).setCell ⟨gc, 2, none⟩ (.slice F4 t.length f4))) ?hg ?ho ?hn ?hr ?_; (case ho => rfl); (case hg => rfl); (case hn => rfl); (case hr => first | (go_simp; done) | (go_simp; rfl)); intro w6 hw; go_loud (have hb46 : Below w4.heap.size w4 w6 := (by rw [hw]; exact ((HB5.out.setCell (p := ⟨gc, 0, none⟩) (Nat.le_of_eq HGC.out.symm) _).setCell (p := ⟨gc, 1, none⟩) (Nat.le_of_eq HGC.out.symm) _).setCell (p := ⟨gc, 2, none⟩) (Nat.le_of_eq HGC.out.symm) _); have HC6 : Aside0 (w6.heap[gc]? = some (.cells #[.int .i64 kk, .slice D4 n.length e4, .slice F4 t.length f4] 97 (0, 0))) := ⟨by rw [hw]; exact blk_put (blk_put (blk_put HBC.out 0 _ rfl) 1 _ rfl) 2 _ rfl⟩; have HBB6 := Aside0.mk ((hb46.block _ (blk_lt HBB4.out)).trans HBB4.out); have HB46 := Aside0.mk hb46; have hc0 := (blk_cell HC6.out 0).trans rfl; have hc1 := (blk_cell HC6.out 1).trans rfl; have hc2 := (blk_cell HC6.out 2).trans rfl; have hd0 := (blk_cell HBB6.out 0).trans rfl; have hd1 := (blk_cell HBB6.out 1).trans rfl; have hd2 := (blk_cell HBB6.out 2).trans rfl; have hf0 := blk_frozen HBB6.out 0; have hf1 := blk_frozen HBB6.out 1; have hf2 := blk_frozen HBB6.out 2; clear hw hcz0 hcz1 hcz2 hfz0 hfz1 hfz2 hb46)))
 have HGB : Aside0 (w.heap.size ≤ gb) := ⟨Nat.le_of_eq HG.out.symm⟩
 have HL3 := Aside0.mk (blk_lt HBB3.out)
 refine bodyPost_ret (results_ct rfl _ _ gb 97 _ (0, 0) _ rfl (blk_put (blk_put (blk_put HBB6.out 0 _ rfl) 1 _ rfl) 2 _ rfl) Tryz.underlying97 rfl (by kernel_rfl)) rfl ?_
 refine ⟨.slice D4 n.length e4, .slice F4 t.length f4, rfl, ?_, ?_, ((((below_step HB4.out HB46.out)).setCell HGB.out _).setCell HGB.out _).setCell HGB.out _⟩
 ·exact Kd.R_mono (Kd.R_lower (R_set (R_set (R_set (Kd.R_below HN4.out HB46.out) HL3.out) HL3.out) HL3.out) HB3.out.size) (fun _ _ => trivial)
 ·exact Kd.S_mono (Kd.S_lower (S_set (S_set (S_set (Kd.S_below HT4.out HB46.out) HL3.out) HL3.out) HL3.out) HB3.out.size) (fun _ _ => trivial)
set_option maxHeartbeats 8000000 in
set_option maxRecDepth 100000 in
theorem decode_bad (k : Nat) (A0 : Option Addr) (c0 : Nat) (l q : List Int) (e_ : Int) (w : World) (hr0 : Kd.C (Kd.int .u8) w A0 l.length l) (hc0 : l.length ≤ c0) (h1 : crc_Open.f k l = some (q, e_)) (he : ¬ e_ = 0) :
  Calls Tryz.prog 70 #[.slice A0 l.length c0] w fun e w' => ∃ v1_ v2_ : Value, e = .returned (.tuple #[.agg #[.int .i64 0, v1_, v2_], .int .i64 e_]) ∧ Kd.R (Kd.int .i64) 3 w' w.heap.size (fun _ => True) v1_ [] ∧ Kd.S (Kd.slice 5 (Kd.int .u8)) 41 w' w.heap.size (fun _ => True) v2_ [] ∧ Below w.heap.size w w' := by
 have HR0 := Aside0.mk hr0
 have HC0 := Aside0.mk hc0
 have A1 := Aside0.mk h1
 have hq1 : (e_ != 0) = true := bne_iff_ne.2 he
 have hq2 : (e_ == 0) = false := beq_eq_false_iff_ne.2 he
 have hq3 : (e_ = 0) = False := eq_false he
 clear hr0 hc0 h1 he
 go_enter Tryz.func70, Tryz.ntmps70
 go_wp2_with (first
  | ((with_reducible refine gate_dst (N := 2) rfl ?_); (try (refine gate_guard (by rfl) ?_; dsimp only)); refine box_event ?hg (N := 2) ?hd (cs := #[.int .i64 0, .slice none 0 0, .slice none 0 0]) (t := 97) ?hr ?_; (case hd => rfl); (case hg => rfl); (case hr => first | (go_simp; done) | (go_simp; rfl)); intro gb hg w1 hbox hb; go_loud (have HG := Aside0.mk hg; have HB1 := Aside0.mk hb; have HBK := Aside0.mk hbox; have HR1 := Aside0.mk (Kd.C_below HR0.out hb); clear hb hg hbox))
  | (go_at_call 84; go_loud (refine (crc_Open.calls k A0 c0 l q e_ _ HR1.out HC0.out A1.out).mono ?_; rintro e w2 ⟨v2, rfl, ho2, hb2⟩; obtain ⟨D2, e2, rfl⟩ := Kd.R_slice ho2; have HBB2 := Aside0.mk ((hb2.block _ (blk_lt HBK.out)).trans HBK.out); have HB2 := Aside0.mk (below_step HB1.out hb2); have hf0 := blk_frozen HBB2.out 0; have hf1 := blk_frozen HBB2.out 1; have hf2 := blk_frozen HBB2.out 2; have hc0 := (blk_cell HBB2.out 0).trans rfl; have hc1 := (blk_cell HBB2.out 1).trans rfl; have hc2 := (blk_cell HBB2.out 2).trans rfl; clear ho2 hb2)))
 have HGB : Aside0 (w.heap.size ≤ gb) := ⟨Nat.le_of_eq HG.out.symm⟩
 refine bodyPost_ret (results_ct rfl _ _ gb 97 _ (0, 0) _ rfl (blk_put (blk_put (blk_put HBB2.out 0 _ rfl) 1 _ rfl) 2 _ rfl) Tryz.underlying97 rfl (by kernel_rfl)) rfl ?_
 exact ⟨.slice none 0 0, .slice none 0 0, rfl, Kd.R_nil _ _ _ _ _, Kd.S_nil _ _ _ _ _, ((HB2.out.setCell HGB.out _).setCell HGB.out _).setCell HGB.out _⟩
theorem wire_Decode.calls (k : Nat) (A0 : Option Addr) (c0 : Nat) (l0 : List Int) (r1 : Int) (r2 : List Int) (r3 : List (List Int)) (r4 : Int) (w : World) (hr0 : Kd.C (Kd.int .u8) w A0 l0.length l0) (hc0 : l0.length ≤ c0) (h : wire_Decode.f k l0 = some (r1, r2, r3, r4)) :
  Calls Tryz.prog 70 #[.slice A0 l0.length c0] w fun e w' => ∃ v1_ v2_ : Value, e = .returned (.tuple #[.agg #[.int .i64 r1, v1_, v2_], .int .i64 r4]) ∧ Kd.R (Kd.int .i64) 3 w' w.heap.size (fun _ => True) v1_ r2 ∧ Kd.S (Kd.slice 5 (Kd.int .u8)) 41 w' w.heap.size (fun _ => True) v2_ r3 ∧ Below w.heap.size w w' := by
 unfold wire_Decode.f at h
 obtain ⟨⟨q, e_⟩, h1, h2⟩ := Option.bind_eq_some_iff.1 h
 simp only at h2
 by_cases he : e_ = 0
 ·subst he
  rw [if_pos rfl] at h2
  by_cases ho : oct5 q = true
  ·rw [if_pos ho] at h2
   cases hr : recI q with
   | bad c => rw [hr] at h2; cases h2
   | good kk n t =>
    rw [hr] at h2
    cases h2
    exact decode_good k A0 c0 l0 q _ _ _ w hr0 hc0 h1 ho hr
  ·rw [if_neg ho] at h2; cases h2
 ·rw [if_neg he] at h2
  cases h2
  exact decode_bad k A0 c0 l0 q _ w hr0 hc0 h1 he

/-! ### image_opened: function 48 -/
def image_opened.f (k : Nat) (l0 : List Int) (a1 : Int) (a2 : Int) (a3 : Int) : Option (Int × List Int × (List (List Int)) × Int) := (wire_Decode.f k l0).bind fun bt234 => (if bt234.2.2.2 = 0 then (if bt234.1 = a1 then (if (bt234.2.1.length : Int) = a2 then (if (bt234.2.2.1.length : Int) = a3 then (some (bt234.1, bt234.2.1, bt234.2.2.1, bt234.2.2.2)) else (none)) else (none)) else (none)) else (none))
theorem image_opened.mono : ∀ a0 a1 a2 a3 k, LeO (image_opened.f k a0 a1 a2 a3) (image_opened.f (k + 1) a0 a1 a2 a3) := by
 intro a0 a1 a2 a3 k
 unfold image_opened.f
 repeat' first
   | (with_reducible exact wire_Decode.mono _ _)
   | (with_reducible exact LeO.refl _)
   | (with_reducible exact LeO.none _)
   | (with_reducible refine LeO.ite ?_ ?_)
   | (with_reducible refine LeO.bind ?_ (fun _ => ?_))
   | exact wire_Decode.mono _ _
   | exact LeO.none _
   | refine LeO.ite ?_ ?_
   | refine LeO.bind ?_ (fun _ => ?_)
set_option maxHeartbeats 8000000 in
set_option maxRecDepth 100000 in
theorem image_opened.calls (k : Nat) (A0 : Option Addr) (c0 : Nat) (l0 : List Int) (a1 : Int) (a2 : Int) (a3 : Int) (r1 : Int) (r2 : List Int) (r3 : List (List Int)) (r4 : Int) (w : World) (hr0 : Kd.C (Kd.int .u8) w A0 l0.length l0) (hc0 : l0.length ≤ c0) (h : image_opened.f k l0 a1 a2 a3 = some (r1, r2, r3, r4)) :
  Calls Tryz.prog 48 #[.slice A0 l0.length c0, .int .i64 a1, .int .i64 a2, .int .i64 a3] w fun e w' => ∃ v1_ v2_ : Value, e = .returned (.tuple #[.agg #[.int .i64 r1, v1_, v2_], .int .i64 r4]) ∧ Kd.R (Kd.int .i64) 3 w' w.heap.size (fun _ => True) v1_ r2 ∧ Kd.S (Kd.slice 5 (Kd.int .u8)) 41 w' w.heap.size (fun _ => True) v2_ r3 ∧ Below w.heap.size w w' := by
 have hu97 := Tryz.underlying97
 have HR0 := Aside0.mk hr0
 have HC0 := Aside0.mk hc0
 clear hr0 hc0
 have HB := Aside0.mk (Below.refl w.heap.size w)
 have H : ((wire_Decode.f k l0).bind fun bt234 => (if bt234.2.2.2 = 0 then (if bt234.1 = a1 then (if (bt234.2.1.length : Int) = a2 then (if (bt234.2.2.1.length : Int) = a3 then (some (bt234.1, bt234.2.1, bt234.2.2.1, bt234.2.2.2)) else (none)) else (none)) else (none)) else (none))) = some (r1, r2, r3, r4) := h
 clear h
 replace H := Option.bind_eq_some_iff.mp H
 obtain ⟨⟨t234, t235, t238, t241⟩, A50, H⟩ := H
 replace H : (if t241 = 0 then (if t234 = a1 then (if (t235.length : Int) = a2 then (if (t238.length : Int) = a3 then (some (t234, t235, t238, t241)) else (none)) else (none)) else (none)) else (none)) = some (r1, r2, r3, r4) := H
 have A5 := Aside0.mk A50
 clear A50
 by_cases c6 : t241 = 0
 ·rw [if_pos c6] at H
  have c6b0 : (t241 == 0) = true := beq_iff_eq.mpr c6
  have c6b1 : (t241 != 0) = false := bne_eq_false_iff_eq.mpr c6
  clear c6
  by_cases c7 : t234 = a1
  ·rw [if_pos c7] at H
   have c7b0 : (t234 == a1) = true := beq_iff_eq.mpr c7
   have c7b1 : (t234 != a1) = false := bne_eq_false_iff_eq.mpr c7
   clear c7
   by_cases c8 : (t235.length : Int) = a2
   ·rw [if_pos c8] at H
    have c8b0 : ((t235.length : Int) == a2) = true := beq_iff_eq.mpr c8
    have c8b1 : ((t235.length : Int) != a2) = false := bne_eq_false_iff_eq.mpr c8
    clear c8
    by_cases c9 : (t238.length : Int) = a3
    ·rw [if_pos c9] at H
     have c9b0 : ((t238.length : Int) == a3) = true := beq_iff_eq.mpr c9
     have c9b1 : ((t238.length : Int) != a3) = false := bne_eq_false_iff_eq.mpr c9
     clear c9
     simp only [Option.some.injEq, Prod.mk.injEq] at H
     obtain ⟨rfl, rfl, rfl, rfl⟩ := H
     go_enter Tryz.func48, Tryz.ntmps48
     go_wp2_with (first | ((with_reducible refine gate_dst (N := 8) rfl ?_); (try (refine gate_guard (by rfl) ?_; dsimp only)); refine box_event ?hg (N := 8) ?hd (cs := #[.int .i64 0, .slice none 0 0, .slice none 0 0]) (t := 97) ?hr ?_; (case hd => rfl); (case hg => rfl); (case hr => first | (go_simp; done) | (go_simp; rfl)); intro gb233 hg w10 hbox hb; have n0_ := Aside0.mk (below_step (by repeat (first | (with_reducible first | exact HB.out | apply below_alloc | apply pw_below_drewN | apply below_drew1) | exact HB.out)) hb); have n1_ := Aside0.mk (hbox); have n2_ := Aside0.mk ((by rw [hg]; exact (below_size (by repeat (first | (with_reducible first | exact HB.out | apply below_alloc | apply pw_below_drewN | apply below_drew1) | exact HB.out))) : w.heap.size ≤ gb233)); have n3_ := Aside0.mk ((by rw [hg]; exact (below_size (by repeat (first | (with_reducible first | exact HB.out | apply below_alloc | apply pw_below_drewN | apply below_drew1) | exact HB.out))) : w.heap.size ≤ gb233)); clear HB; have HB := n0_; have BK233 := n1_; have GW233 := n2_; have GE233 := n3_; clear n0_ n1_ n2_ n3_; clear hb hbox hg) | ((with_reducible refine gate_callee (f := 70) rfl ?_); refine goesL_ (some 14) rfl rfl Tryz.func70 (by kernel_rfl) rfl #[.slice A0 l0.length c0] rfl (by (try simp only [List.map_toArray, List.map_cons, List.map_nil]); first | done | rfl | (simp only [List.length_drop, List.length_take]; rfl)) ?_; (with_reducible refine (wire_Decode.calls k _ _ l0 t234 t235 t238 t241 _ ?side1 ?side2 A5.out).mono ?_); (case side1 => repeat (first | exact (Kd.C_below HR0.out HB.out) | (with_reducible refine Kd.C_alloc ?_ _) | (with_reducible refine Kd.C_drewN ?_ _) | (with_reducible refine Kd.C_drew ?_))); (case side2 => exact HC0.out); rintro e w11 ⟨v236, v239, rfl, ho0, ho1, hb⟩; refine ⟨_, rfl, ?_⟩; have n0_ := Aside0.mk (Kd.R_lower ho0 (below_size (by repeat (first | (with_reducible first | exact HB.out | apply below_alloc | apply pw_below_drewN | apply below_drew1 | refine below_set ?_ GE233.out) | exact HB.out)))); have n1_ := Aside0.mk (Kd.S_lower ho1 (below_size (by repeat (first | (with_reducible first | exact HB.out | apply below_alloc | apply pw_below_drewN | apply below_drew1 | refine below_set ?_ GE233.out) | exact HB.out)))); have n2_ := Aside0.mk (blk_below (g := gb233) (o := .cells #[.int .i64 0, .slice none 0 0, .slice none 0 0] 97 (0, 0)) (by (with_reducible repeat (first | refine blk_drewN ?_ _ | refine blk_drew ?_ | refine blk_alloc ?_ _)); exact BK233.out) hb); have n3_ := Aside0.mk (below_step (by repeat (first | (with_reducible first | exact HB.out | apply below_alloc | apply pw_below_drewN | apply below_drew1 | refine below_set ?_ GE233.out) | exact HB.out)) hb); clear BK233; clear HB; have HO237 := n0_; have HO240 := n1_; have BK233 := n2_; have HB := n3_; clear n0_ n1_ n2_ n3_; (try clear hb); (try clear hb2); (try clear hk); (try clear hi); (try clear ho0); (try clear ho1)) | ((with_reducible refine gate_dst (N := 10) rfl ?_); (try (refine gate_guard (by rfl) ?_; dsimp only)); refine box_event ?hg (N := 10) ?hd (cs := #[.int .i64 0, .slice none 0 0, .slice none 0 0]) (t := 97) ?hr ?_; (case hd => rfl); (case hg => rfl); (case hr => first | (go_simp; done) | (go_simp; rfl)); intro gb242 hg w12 hbox hb; have n0_ := Aside0.mk (Kd.R_below (by (with_reducible repeat (first | apply Kd.R_alloc | apply Kd.R_drewN | apply Kd.R_drew)); exact HO237.out) hb); have n1_ := Aside0.mk (Kd.S_below (by (with_reducible repeat (first | apply Kd.S_alloc | apply Kd.S_drewN | apply Kd.S_drew)); exact HO240.out) hb); have n2_ := Aside0.mk (blk_below (g := gb233) (o := .cells #[.int .i64 0, .slice none 0 0, .slice none 0 0] 97 (0, 0)) (by (with_reducible repeat (first | refine blk_drewN ?_ _ | refine blk_drew ?_ | refine blk_alloc ?_ _)); exact BK233.out) hb); have n3_ := Aside0.mk (below_step (by repeat (first | (with_reducible first | exact HB.out | apply below_alloc | apply pw_below_drewN | apply below_drew1 | refine below_set ?_ GE233.out) | exact HB.out)) hb); have n4_ := Aside0.mk (hbox); have n5_ := Aside0.mk ((by rw [hg]; exact (below_size (by repeat (first | (with_reducible first | exact HB.out | apply below_alloc | apply pw_below_drewN | apply below_drew1 | refine below_set ?_ GE233.out) | exact HB.out))) : w.heap.size ≤ gb242)); have n6_ := Aside0.mk ((by rw [hg]; exact (below_size (by repeat (first | (with_reducible first | exact HB.out | apply below_alloc | apply pw_below_drewN | apply below_drew1 | refine below_set ?_ GE233.out) | exact HB.out))) : w.heap.size ≤ gb242)); have n7_ := Aside0.mk ((by rw [hg]; exact Nat.ne_of_lt (blk_lt (g := gb233) (o := .cells #[.int .i64 0, .slice none 0 0, .slice none 0 0] 97 (0, 0)) (by (with_reducible repeat (first | refine blk_drewN ?_ _ | refine blk_drew ?_ | refine blk_alloc ?_ _)); exact BK233.out)) : gb233 ≠ gb242)); have n8_ := Aside0.mk ((by rw [hg]; exact Nat.ne_of_gt (blk_lt (g := gb233) (o := .cells #[.int .i64 0, .slice none 0 0, .slice none 0 0] 97 (0, 0)) (by (with_reducible repeat (first | refine blk_drewN ?_ _ | refine blk_drew ?_ | refine blk_alloc ?_ _)); exact BK233.out)) : gb242 ≠ gb233)); clear HO237; clear HO240; clear BK233; clear HB; have HO237 := n0_; have HO240 := n1_; have BK233 := n2_; have HB := n3_; have BK242 := n4_; have GW242 := n5_; have GE242 := n6_; have NB233_242 := n7_; have NB242_233 := n8_; clear n0_ n1_ n2_ n3_ n4_ n5_ n6_ n7_ n8_; clear hb hbox hg; have hnb13 := NB242_233.out; have hnc13 := NB233_242.out; have hcz14_0 : w12.cell? ⟨gb242, 0, none⟩ = some (.int .i64 0) := (blk_cell BK242.out 0).trans rfl; have hcz14_1 : w12.cell? ⟨gb242, 1, none⟩ = some (.slice none 0 0) := (blk_cell BK242.out 1).trans rfl; have hcz14_2 : w12.cell? ⟨gb242, 2, none⟩ = some (.slice none 0 0) := (blk_cell BK242.out 2).trans rfl; have hfz14_0 := blk_frozen BK242.out 0; have hfz14_1 := blk_frozen BK242.out 1; have hfz14_2 := blk_frozen BK242.out 2; obtain ⟨Ao15, co15, eo15⟩ := Kd.R_slice HO237.out; subst eo15; obtain ⟨Ao16, co16, eo16⟩ := Kd.S_slice HO240.out; subst eo16; have hcz17_0 : w12.cell? ⟨gb233, 0, none⟩ = some (.int .i64 0) := (blk_cell BK233.out 0).trans rfl; have hcz17_1 : w12.cell? ⟨gb233, 1, none⟩ = some (.slice none 0 0) := (blk_cell BK233.out 1).trans rfl; have hcz17_2 : w12.cell? ⟨gb233, 2, none⟩ = some (.slice none 0 0) := (blk_cell BK233.out 2).trans rfl; have hfz17_0 := blk_frozen BK233.out 0; have hfz17_1 := blk_frozen BK233.out 1; have hfz17_2 := blk_frozen BK233.out 2))
     refine bodyPost_ret (results_ct rfl _ _ gb233 97 #[.int .i64 t234, .slice Ao15 t235.length co15, .slice Ao16 t238.length co16] (0, 0) _ rfl (by (with_reducible repeat (first | refine blk_drewN ?_ _ | refine blk_drew ?_ | refine blk_alloc ?_ _)); refine blk_put (cs := #[.int .i64 t234, .slice Ao15 t235.length co15, .slice none 0 0]) ?_ 2 _ rfl; (with_reducible repeat (first | refine blk_drewN ?_ _ | refine blk_drew ?_ | refine blk_alloc ?_ _)); refine blk_put (cs := #[.int .i64 t234, .slice none 0 0, .slice none 0 0]) ?_ 1 _ rfl; (with_reducible repeat (first | refine blk_drewN ?_ _ | refine blk_drew ?_ | refine blk_alloc ?_ _)); refine blk_put (cs := #[.int .i64 0, .slice none 0 0, .slice none 0 0]) ?_ 0 _ rfl; (with_reducible repeat (first | refine blk_drewN ?_ _ | refine blk_drew ?_ | refine blk_alloc ?_ _)); refine blk_far ?_ NB233_242.out _; (with_reducible repeat (first | refine blk_drewN ?_ _ | refine blk_drew ?_ | refine blk_alloc ?_ _)); refine blk_far ?_ NB233_242.out _; (with_reducible repeat (first | refine blk_drewN ?_ _ | refine blk_drew ?_ | refine blk_alloc ?_ _)); refine blk_far ?_ NB233_242.out _; (with_reducible repeat (first | refine blk_drewN ?_ _ | refine blk_drew ?_ | refine blk_alloc ?_ _)); exact BK233.out) Tryz.underlying97 rfl (by kernel_rfl)) rfl ?_
     exact ⟨_, _, by first | rfl | (simp [errW_none, errW_some] <;> rfl) | (simp [*, errW_none, errW_some] <;> rfl) | (exfalso; simp only [beq_iff_eq, decide_eq_true_eq] at *; omega), by (with_reducible repeat (first | apply Kd.R_alloc | apply Kd.R_drewN | apply Kd.R_drew)); exact Kd.R_mono (Kd.R_far (p := ⟨gb233, 2, none⟩) (Kd.R_far (p := ⟨gb233, 1, none⟩) (Kd.R_far (p := ⟨gb233, 0, none⟩) (Kd.R_far (p := ⟨gb242, 2, none⟩) (Kd.R_far (p := ⟨gb242, 1, none⟩) (Kd.R_far (p := ⟨gb242, 0, none⟩) (Kd.R_types (Kd.R_types HO237.out BK242.out (by decide)) BK233.out (by decide)) (fun _ hk => hk.1.2) (.int .i64 t234)) (fun _ hk => hk.1.2) (.slice Ao15 t235.length co15)) (fun _ hk => hk.1.2) (.slice Ao16 t238.length co16)) (fun _ hk => hk.2) (.int .i64 t234)) (fun _ hk => hk.2) (.slice Ao15 t235.length co15)) (fun _ hk => hk.2) (.slice Ao16 t238.length co16)) (fun _ hk => trivial), by (with_reducible repeat (first | apply Kd.S_alloc | apply Kd.S_drewN | apply Kd.S_drew)); exact Kd.S_mono (Kd.S_far (p := ⟨gb233, 2, none⟩) (Kd.S_far (p := ⟨gb233, 1, none⟩) (Kd.S_far (p := ⟨gb233, 0, none⟩) (Kd.S_far (p := ⟨gb242, 2, none⟩) (Kd.S_far (p := ⟨gb242, 1, none⟩) (Kd.S_far (p := ⟨gb242, 0, none⟩) (Kd.S_types (Kd.S_types HO240.out BK242.out (by decide)) BK233.out (by decide)) (fun _ hk => hk.1.2) (.int .i64 t234)) (fun _ hk => hk.1.2) (.slice Ao15 t235.length co15)) (fun _ hk => hk.1.2) (.slice Ao16 t238.length co16)) (fun _ hk => hk.2) (.int .i64 t234)) (fun _ hk => hk.2) (.slice Ao15 t235.length co15)) (fun _ hk => hk.2) (.slice Ao16 t238.length co16)) (fun _ hk => trivial), by repeat (first | (with_reducible first | exact HB.out | apply below_alloc | apply pw_below_drewN | apply below_drew1 | refine below_set ?_ GE233.out | refine below_set ?_ GE242.out) | exact HB.out)⟩
    ·rw [if_neg c9] at H
     exact absurd H (by simp)
   ·rw [if_neg c8] at H
    exact absurd H (by simp)
  ·rw [if_neg c7] at H
   exact absurd H (by simp)
 ·rw [if_neg c6] at H
  exact absurd H (by simp)
end Go.Proofs.YtfakjmjkodkceaaGreatDoor.PImw
