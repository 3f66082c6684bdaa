-- Written by a program of this session (gen.py).
import Derived.Test.YtfakjmjkodkceaaGreatDoorPImwx0
import Derived.Test.YtfakjmjkodkceaaGreatDoorPImwx2
import Derived.Test.YtfakjmjkodkceaaGreatDoorPImwx6
import Derived.Test.YtfakjmjkodkceaaGreatDoorPImwx7
namespace Go.Proofs.YtfakjmjkodkceaaGreatDoor.PImw
open Go.RowKit Go.Proofs.YtfakjmjkodkceaaGreatDoorW.PrintWords Go.Proofs.YtfakjmjkodkceaaGreatDoorW.PrintLast Go.Proofs.YtfakjmjkodkceaaGreatDoorW.PrintMore
open Go.Proofs.YtfakjmjkodkceaaGreatDoor.Own
attribute [local go_sem high] unary_not_u32 unary_not_u64 unary_not_u8 string_leq_ string_gtr_ string_geq_
attribute [local go_sem] max2_int min2_int max_two min_two max_three min_three max_four min_four   -- for this text's walks alone
set_option linter.unusedVariables false
set_option linter.unusedSimpArgs false

/-! ### octets_Put: function 63 -/
open Go.Shelf
attribute [local go_sem] Oper.semAt_some
theorem backward_in (F : Fence) (n : Nat) (h5 : F.fn 82) (hro : F.round = none) (a : Option Addr) (len cap : Nat) (w : World) :
    CallsIn F n Tryz.prog 82 #[.slice a len cap] w fun e w' => e = .returned (.func (.func 95) #[] #[.pointer (some ⟨w.heap.size, 0, none⟩)]) ∧ w' = w.alloc (.cells #[.slice a len cap] 41) := by
  refine callsIn_of_wp Tryz.func82 rfl h5 ?_ hro
  simp only [Tryz.ntmps82, List.size_toArray, List.length_cons, List.length_nil, Nat.reduceAdd, Nat.reduceSub, Array.replicate_succ, Array.replicate_zero, List.push_toArray, List.append_toArray, List.nil_append, List.cons_append]
  gi_wp2
  go_ret
  exact ⟨rfl, rfl⟩
/-- What a round keeps: the box, and that the row's cells are octets. -/
def BackK (g Bs len : Nat) (W W' : World) : Prop := W'.cell? ⟨Bs, 0, none⟩ = W.cell? ⟨Bs, 0, none⟩ ∧ ∀ j, j < len → (∃ v, W.cell? ⟨g, j, none⟩ = some (.int .u8 v)) → ∃ v, W'.cell? ⟨g, j, none⟩ = some (.int .u8 v)
theorem BackK.refl (g Bs len : Nat) (W : World) : BackK g Bs len W W := ⟨rfl, fun _ _ h => h⟩
theorem BackK.trans {g Bs len : Nat} {A B C : World} (h : BackK g Bs len A B) (k : BackK g Bs len B C) : BackK g Bs len A C := ⟨k.1.trans h.1, fun j hj hv => k.2 j hj (h.2 j hj hv)⟩
abbrev BackA (len : Nat) := { p : Nat × Int // p.1 < len }
def ideal (len k : Nat) : List Nat := (List.range k).map fun j => len - 1 - j
theorem ideal_succ (len k : Nat) : ideal len (k + 1) = ideal len k ++ [len - 1 - k] := by simp [ideal, List.range_succ]
theorem ideal_length (len k : Nat) : (ideal len k).length = k := by simp [ideal]
set_option maxRecDepth 100000 in
set_option maxHeartbeats 4000000 in
theorem backward1_in (F : Fence) (n : Nat) (h7 : F.fn 95) (hro : F.round = none) (hn : 1 ≤ n) (l Bs g len cap : Nat) (hlen : len ≤ 9223372036854775807) (J Jx : List (BackA len) → World → Prop)
    (hY : ∀ pre x W, J pre W → pre.length < len → YieldAt F (n - 1) Tryz.prog l #[.int .i64 (x.1.1 : Int), .int .u8 x.1.2] W fun e W' =>
      (e = .returned (.bool true) ∧ J (pre ++ [x]) W' ∧ BackK g Bs len W W') ∨ (e = .returned (.bool false) ∧ Jx (pre ++ [x]) W'))
    (W : World) (hBs : W.cell? ⟨Bs, 0, none⟩ = some (.slice (some ⟨g, 0, none⟩) len cap)) (hc : ∀ j, j < len → ∃ v, W.cell? ⟨g, j, none⟩ = some (.int .u8 v)) (h0 : J [] W) :
    CallsIn F n Tryz.prog 95 #[.func (.yield l) #[] #[], .pointer (some ⟨Bs, 0, none⟩)] W fun e W' => (∃ v, e = .returned v) ∧
      ((∃ ys, ys.map (·.1.1) = ideal len len ∧ J ys W') ∨ (∃ pre, True ∧ Jx pre W')) := by
  refine callsIn_of_wp Tryz.func95 rfl h7 ?_ hro
  simp only [Tryz.ntmps95, List.size_toArray, List.length_cons, List.length_nil, Nat.reduceAdd, Nat.reduceSub, Array.replicate_succ, Array.replicate_zero, List.push_toArray, List.append_toArray, List.nil_append, List.cons_append]
  gi_wp2
  gi_loopw [3] (fun i wr => ∃ (k : Nat) (pre : List (BackA len)), k ≤ len ∧ i = .int .i64 ((len : Int) - 1 - (k : Int)) ∧ Aside0 (pre.map (·.1.1) = ideal len k) ∧ J pre wr ∧ Aside0 (BackK g Bs len W wr))
    (fun i _ => (intOf i + 1).toNat)
  case atStart => exact ⟨0, [], by omega, by simp, ⟨rfl⟩, h0, ⟨BackK.refl _ _ _ _⟩⟩
  case round =>
    obtain ⟨k, pre, hk, rfl, hpre, hJs, hK⟩ := hrel
    have hB2 : wr.cell? ⟨Bs, 0, none⟩ = some (.slice (some ⟨g, 0, none⟩) len cap) := hK.out.1.trans hBs
    by_cases hlt : k < len
    · obtain ⟨i, hi⟩ : ∃ i, i = len - 1 - k := ⟨_, rfl⟩
      have hlt2 : i < len := by omega
      obtain ⟨v, hv⟩ := hK.out.2 i hlt2 (hc _ hlt2)
      obtain ⟨x, hx1, hx2⟩ : ∃ x : BackA len, x.1.1 = i ∧ x.1.2 = v := ⟨⟨(i, v), hlt2⟩, rfl, rfl⟩
      obtain ⟨fn, tmps, assign, body, hy, hR⟩ := hY pre x wr hJs (by have := congrArg List.length hpre.out; rw [List.length_map, ideal_length] at this; omega)
      rw [hx1, hx2] at hy
      have HP := Aside0.mk (show (pre ++ [x]).map (·.1.1) = ideal len (k + 1) by rw [List.map_append, hpre.out, ideal_succ]; simp [hx1, hi])
      have hi2 : ((len : Int) - 1 - (k : Int)) = (i : Int) := by omega
      have HK1 := Aside0.mk (show i + 1 + k = len by omega)
      rw [hi2]
      have hd : decide (0 ≤ (i : Int)) = true := by simp
      clear hi hi2 hx1 hx2
      gi_wp2
      refine hR.mono ?_
      rintro e W3 (⟨rfl, hJ3, hk3⟩ | ⟨rfl, hJx3⟩)
      · gi_wp2
        go_roundw
        case rel => exact ⟨k + 1, pre ++ [x], by omega, by have := HK1.out; go_num, HP, hJ3, ⟨hK.out.trans hk3⟩⟩
        case measure => simp [intOf]
      · gi_wp2
        refine bodyPost_ret (results_none rfl _ _ _) rfl ?_
        exact ⟨⟨_, rfl⟩, .inr ⟨_, trivial, hJx3⟩⟩
    · obtain rfl : k = len := by omega
      have hd : decide (0 ≤ (k : Int) - 1 - (k : Int)) = false := by simp; omega
      gi_wp2
      go_end0
      exact ⟨⟨_, rfl⟩, .inl ⟨pre, hpre.out, hJs⟩⟩
/-- A number's octets, the highest first. -/
def octI (n : Int) (size : Nat) : List Int := (List.range size).map fun i => n / 256 ^ (size - 1 - i) % 256
/-- How many octets hold a number. -/
def needI (n : Int) : Int := if n < 1 then 0 else if n < 256 then 1 else if n < 65536 then 2 else if n < 16777216 then 3 else if n < 4294967296 then 4 else if n < 1099511627776 then 5 else if n < 281474976710656 then 6 else if n < 72057594037927936 then 7 else 8
def tabOk (T : ByteArray) : Bool := (List.range 256).all fun i => decide (0 ≤ bt T (i : Int)) && decide (bt T (i : Int) ≤ 8) && (decide (bt T (i : Int) = 0) == decide (i = 0))
theorem tabOk_is {T : ByteArray} (h : tabOk T = true) (i : Int) (h0 : 0 ≤ i) (h1 : i < 256) : (i = 0 ∧ bt T i = 0) ∨ (0 < i ∧ 1 ≤ bt T i ∧ bt T i ≤ 8) := by
  have := List.all_eq_true.1 h i.toNat (by simp; omega)
  rw [show ((i.toNat : Nat) : Int) = i by omega] at this
  simp at this
  omega
theorem need_sum (a t : Int) (h0 : 0 ≤ a) (h1 : a ≤ 56) (h2 : 0 ≤ t) (h3 : t ≤ 8) : wrap64 (Int.tdiv (wrap64 (wrap64 (a + wrap64 t) + 7)) 8) = (a + t + 7) / 8 := by
  have e1 : wrap64 t = t := by unfold wrap64; omega
  have e2 : wrap64 (a + t) = a + t := by unfold wrap64; omega
  have e3 : wrap64 (a + t + 7) = a + t + 7 := by unfold wrap64; omega
  rw [e1, e2, e3, Int.tdiv_eq_ediv_of_nonneg (by omega)]
  unfold wrap64
  omega
theorem need_is (n : Int) (h0 : 0 ≤ n) (h1 : n ≤ 18446744073709551615) : octets_Need.f 9 n = some (needI n) := by
  unfold octets_Need.f bits_Len64.f bits_Len64.j0
  generalize hT : (ByteArray.mk _) = T
  have hok : tabOk T = true := by rw [← hT]; kernel_rfl
  clear hT
  have e0 : wrap64 ((32 : Int) + 16) = 48 := by unfold wrap64; omega
  have e1 : wrap64 ((48 : Int) + 8) = 56 := by unfold wrap64; omega
  have e2 : wrap64 ((32 : Int) + 8) = 40 := by unfold wrap64; omega
  have e3 : wrap64 ((0 : Int) + 16) = 16 := by unfold wrap64; omega
  have e4 : wrap64 ((16 : Int) + 8) = 24 := by unfold wrap64; omega
  have e5 : wrap64 ((0 : Int) + 8) = 8 := by unfold wrap64; omega
  simp only [e0, e1, e2, e3, e4, e5]
  repeat' split
  all_goals first
    | (exfalso; omega)
    | (simp only [Option.bind_some, Option.some.injEq]
       first
        | (have hh := tabOk_is hok (n / 4294967296 / 65536 / 256 % 256) (by omega) (by omega); rw [need_sum _ _ (by omega) (by omega) (by omega) (by omega)]; unfold needI; omega)
        | (have hh := tabOk_is hok (n / 4294967296 / 65536 % 256) (by omega) (by omega); rw [need_sum _ _ (by omega) (by omega) (by omega) (by omega)]; unfold needI; omega)
        | (have hh := tabOk_is hok (n / 4294967296 / 256 % 256) (by omega) (by omega); rw [need_sum _ _ (by omega) (by omega) (by omega) (by omega)]; unfold needI; omega)
        | (have hh := tabOk_is hok (n / 4294967296 % 256) (by omega) (by omega); rw [need_sum _ _ (by omega) (by omega) (by omega) (by omega)]; unfold needI; omega)
        | (have hh := tabOk_is hok (n / 65536 / 256 % 256) (by omega) (by omega); rw [need_sum _ _ (by omega) (by omega) (by omega) (by omega)]; unfold needI; omega)
        | (have hh := tabOk_is hok (n / 65536 % 256) (by omega) (by omega); rw [need_sum _ _ (by omega) (by omega) (by omega) (by omega)]; unfold needI; omega)
        | (have hh := tabOk_is hok (n / 256 % 256) (by omega) (by omega); rw [need_sum _ _ (by omega) (by omega) (by omega) (by omega)]; unfold needI; omega)
        | (have hh := tabOk_is hok (n % 256) (by omega) (by omega); rw [need_sum _ _ (by omega) (by omega) (by omega) (by omega)]; unfold needI; omega))
def octets_Put.f (a0 a1 : Int) : Option (List Int × Int) := if 0 ≤ a0 ∧ a0 ≤ 18446744073709551615 then (if a1 < 0 ∨ 64 < a1 then some ([], 4) else if a1 < needI a0 then some ([], 107) else some (octI a0 a1.toNat, 0)) else none
/-- The row behind k rounds. -/
def putRow (N len k : Nat) : Array Value := ((List.range len).map fun i => Value.int .u8 (if i < len - k then 0 else ((N / 256 ^ (len - 1 - i) % 256 : Nat) : Int))).toArray
theorem putRow_size (N len k : Nat) : (putRow N len k).size = len := by simp [putRow]
theorem putRow_get (N len k i : Nat) (h : i < len) : (putRow N len k)[i]? = some (Value.int .u8 (if i < len - k then 0 else ((N / 256 ^ (len - 1 - i) % 256 : Nat) : Int))) := by simp [putRow, h]
theorem putRow_zero (N len : Nat) : putRow N len 0 = madeCells #[.int .u8 0] len := by
  apply Array.ext_getElem?
  intro i
  by_cases hi : i < len
  · rw [putRow_get _ _ _ _ hi, if_pos (by omega)]
    simp [madeCells, hi, Nat.mod_one]
  · rw [Array.getElem?_eq_none (by rw [putRow_size]; omega), Array.getElem?_eq_none (by rw [size_madeCells]; omega)]
theorem putRow_set (N len k : Nat) (h : k < len) : (putRow N len k).setIfInBounds (len - 1 - k) (Value.int .u8 ((N / 256 ^ k % 256 : Nat) : Int)) = putRow N len (k + 1) := by
  apply Array.ext_getElem?
  intro i
  rw [Array.getElem?_setIfInBounds]
  by_cases hi : i < len
  · by_cases e : len - 1 - k = i
    · subst e
      rw [if_pos rfl, putRow_size, if_pos hi, putRow_get _ _ _ _ hi, if_neg (by omega), show len - 1 - (len - 1 - k) = k by omega]
    · rw [if_neg e, putRow_get _ _ _ _ hi, putRow_get _ _ _ _ hi]
      congr 2
      by_cases h1 : i < len - k
      · rw [if_pos h1, if_pos (by omega)]
      · rw [if_neg h1, if_neg (by omega)]
  · have e : len - 1 - k ≠ i := by omega
    rw [if_neg e, Array.getElem?_eq_none (by rw [putRow_size]; omega), Array.getElem?_eq_none (by rw [putRow_size]; omega)]
/-- What the loop keeps. -/
structure PutAt (w : World) (N len : Nat) (pre : List (BackA len)) (W : World) : Prop where
  row : ∃ cs, W.heap[w.heap.size + 1]? = some (.cells cs 5 (0, 0)) ∧ cs.size = len ∧ (∀ j, j < len → ∃ v, cs[j]? = some (.int .u8 v)) ∧ (pre.map (·.1.1) = ideal len pre.length → pre.length ≤ len → cs = putRow N len pre.length)
  num : ∃ m : Nat, m ≤ 18446744073709551615 ∧ Boxed W w.heap.size 124 (.int .u64 (m : Int)) ∧ m = N / 256 ^ pre.length
  box : Boxed W (w.heap.size + 2) 41 (.slice (some ⟨w.heap.size + 1, 0, none⟩) len len)
theorem cell_kept_other {W : World} (p q : Addr) (v : Value) (h : p.block ≠ q.block) : (W.setCell q v).cell? p = W.cell? p := World.cell?_of_block (Below.heap_setCell W q v p.block h)
theorem ideal_init {len : Nat} {pre : List (BackA len)} {x : BackA len} (h : (pre ++ [x]).map (·.1.1) = ideal len (pre ++ [x]).length) : pre.map (·.1.1) = ideal len pre.length ∧ x.1.1 = len - 1 - pre.length := by
  rw [List.length_append, List.length_singleton, ideal_succ, List.map_append] at h
  obtain ⟨h1, h2⟩ := List.append_inj h (by simp [ideal_length])
  exact ⟨h1, by simpa using h2⟩
set_option maxHeartbeats 8000000 in
set_option maxRecDepth 100000 in
theorem put_range (a0 a1 : Int) (w : World) (h : a1 < 0 ∨ 64 < a1) : Calls Tryz.prog 63 #[.int .u64 a0, .int .i64 a1] w fun e w' => e = .returned (.tuple #[.slice none 0 0, .int .i64 4]) ∧ Below w.heap.size w w' := by
  rcases h with h | h
  · have hd : decide (a1 < 0) = true := by simpa using h
    go_enter Tryz.func63, Tryz.ntmps63
    go_wp2
    go_ret2
    exact ⟨rfl, (Below.refl _ _).alloc (Nat.le_refl _) _⟩
  · have hd : decide (a1 < 0) = false := by simp; omega
    have hd2 : decide (64 < a1) = true := by simpa using h
    go_enter Tryz.func63, Tryz.ntmps63
    go_wp2
    go_ret2
    exact ⟨rfl, (Below.refl _ _).alloc (Nat.le_refl _) _⟩
set_option maxHeartbeats 8000000 in
set_option maxRecDepth 100000 in
theorem put_big (a0 a1 t : Int) (w : World) (h0 : 0 ≤ a1) (h1 : a1 ≤ 64) (ht : octets_Need.f 9 a0 = some t) (h : a1 < t) : Calls Tryz.prog 63 #[.int .u64 a0, .int .i64 a1] w fun e w' => e = .returned (.tuple #[.slice none 0 0, .int .i64 107]) ∧ Below w.heap.size w w' := by
  have hd : decide (a1 < 0) = false := by simp; omega
  have hd2 : decide (64 < a1) = false := by simp; omega
  have hd3 : decide (a1 < t) = true := by simpa using h
  have HT := Aside0.mk ht
  clear ht
  go_enter Tryz.func63, Tryz.ntmps63
  go_wp2_with (go_at_call 81; refine (octets_Need.calls 9 _ _ _ HT.out).mono ?_; rintro e w' ⟨rfl, ⟨nd, rfl⟩⟩)
  go_ret2
  exact ⟨rfl, pw_below_drewN (by repeat (first | exact Below.refl _ _ | apply below_alloc)) _⟩
set_option maxHeartbeats 8000000 in
set_option maxRecDepth 100000 in
theorem put_main (a0 a1 t : Int) (w : World) (hn0 : 0 ≤ a0) (hn1 : a0 ≤ 18446744073709551615) (h0 : 0 ≤ a1) (h1 : a1 ≤ 64) (ht : octets_Need.f 9 a0 = some t) (h : ¬ a1 < t) : Calls Tryz.prog 63 #[.int .u64 a0, .int .i64 a1] w fun e w' => ∃ v0_ : Value, e = .returned (.tuple #[v0_, .int .i64 0]) ∧ Kd.R (Kd.int .u8) 5 w' w.heap.size (fun _ => True) v0_ (octI a0 a1.toNat) ∧ Below w.heap.size w w' := by
  have hd : decide (a1 < 0) = false := by simp; omega
  have hd2 : decide (64 < a1) = false := by simp; omega
  have hd3 : decide (a1 < t) = false := by simpa using h
  have HT := Aside0.mk ht
  clear ht
  refine (callsIn_wide (n := 6)).1 ?_
  refine callsIn_of_wp_marks Tryz.func63 rfl trivial ?_ rfl
  simp only [Tryz.ntmps63, List.size_toArray, List.length_cons, List.length_nil, Nat.reduceAdd, Nat.reduceSub, Array.replicate_succ, Array.replicate_zero, List.push_toArray, List.append_toArray, List.nil_append, List.cons_append]
  obtain ⟨ei, hei, hez⟩ := Option.map_eq_some_iff.1 info5
  simp only [Prod.mk.injEq] at hez
  have HM : Aside0 (∀ W : World, (Instr.makeSlice 41 (.int .i64 a1) (.int .i64 a1)).run Tryz.prog W = .ok (.slice (some ⟨W.heap.size, 0, none⟩) a1.toNat a1.toNat) (W.alloc (.cells (madeCells #[.int .u8 0] a1.toNat) 5))) := ⟨fun W => by
    have := run_make (P := Tryz.prog) W 41 5 ei (.int .u8 0) Tryz.underlying41 hei hez.1 .i64 .i64 a1 a1 h0 (Int.le_refl _) (by rw [hez.2.2]; omega) (by omega)
    rw [hez.2.1, Nat.mul_one] at this
    exact this⟩
  clear hez hei
  gi_wp2_with (first
    | (refine ⟨trivial, ?_⟩; gi_at_call 81; refine (callsIn_wide.2 (octets_Need.calls 9 _ _ _ HT.out)).mono ?_; rintro e w' ⟨rfl, ⟨nd, rfl⟩⟩)
    | (refine ⟨trivial, ?_⟩; gi_at_call 82; refine (backward_in Fence.wide 5 trivial rfl _ _ _ _).mono ?_; rintro e w' ⟨rfl, rfl⟩)
    | rw [HM.out])
  obtain ⟨N, rfl⟩ : ∃ N : Nat, a0 = (N : Int) := ⟨a0.toNat, by omega⟩
  obtain ⟨len, rfl⟩ : ∃ len : Nat, a1 = (len : Int) := ⟨a1.toNat, by omega⟩
  rw [Int.toNat_natCast]
  obtain ⟨W0, hW0⟩ : ∃ W0, W0 = (((((w.alloc (.cells #[.int .u64 (N : Int)] 124)).drewN nd).alloc (.cells (madeCells #[.int .u8 0] len) 5)).alloc (.cells #[.slice (some ⟨w.heap.size + 1, 0, none⟩) len len] 41)).alloc (.cells #[.slice (some ⟨w.heap.size + 1, 0, none⟩) len len] 41)) := ⟨_, rfl⟩
  rw [← hW0]
  have hsz : W0.heap.size = w.heap.size + 4 := by rw [hW0]; simp
  have hb0 : Boxed W0 w.heap.size 124 (.int .u64 (N : Int)) := by
    rw [hW0]
    refine Boxed.alloc (Boxed.alloc (Boxed.alloc ?_ _) _) _
    exact Boxed.new w 124 _
  have hb1 : W0.heap[w.heap.size + 1]? = some (.cells (madeCells #[.int .u8 0] len) 5 (0, 0)) := by
    rw [hW0]
    refine (Below.heap_alloc _ _ _ (by simp)).trans ((Below.heap_alloc _ _ _ (by simp)).trans ?_)
    have h := heap_alloc_new ((w.alloc (.cells #[.int .u64 (N : Int)] 124)).drewN nd) (.cells (madeCells #[.int .u8 0] len) 5)
    have e : ((w.alloc (.cells #[.int .u64 (N : Int)] 124)).drewN nd).heap.size = w.heap.size + 1 := by simp
    rw [e] at h
    exact h
  have hb2 : Boxed W0 (w.heap.size + 2) 41 (.slice (some ⟨w.heap.size + 1, 0, none⟩) len len) := by
    rw [hW0]
    refine Boxed.alloc ?_ _
    have h := Boxed.new (((w.alloc (.cells #[.int .u64 (N : Int)] 124)).drewN nd).alloc (.cells (madeCells #[.int .u8 0] len) 5)) 41 (.slice (some ⟨w.heap.size + 1, 0, none⟩) len len)
    have e : (((w.alloc (.cells #[.int .u64 (N : Int)] 124)).drewN nd).alloc (.cells (madeCells #[.int .u8 0] len) 5)).heap.size = w.heap.size + 2 := by simp
    rw [e] at h
    exact h
  have hb3 : Boxed W0 (w.heap.size + 3) 41 (.slice (some ⟨w.heap.size + 1, 0, none⟩) len len) := by
    rw [hW0]
    have h := Boxed.new ((((w.alloc (.cells #[.int .u64 (N : Int)] 124)).drewN nd).alloc (.cells (madeCells #[.int .u8 0] len) 5)).alloc (.cells #[.slice (some ⟨w.heap.size + 1, 0, none⟩) len len] 41)) 41 (.slice (some ⟨w.heap.size + 1, 0, none⟩) len len)
    have e : ((((w.alloc (.cells #[.int .u64 (N : Int)] 124)).drewN nd).alloc (.cells (madeCells #[.int .u8 0] len) 5)).alloc (.cells #[.slice (some ⟨w.heap.size + 1, 0, none⟩) len len] 41)).heap.size = w.heap.size + 3 := by simp
    rw [e] at h
    exact h
  have hB0 : Below w.heap.size w W0 := by
    rw [hW0]
    refine ((Below.alloc (Below.alloc (Below.alloc (pw_below_drewN ((Below.refl _ _).alloc (Nat.le_refl _) _) _) ?_ _) ?_ _) ?_ _)) <;> simp <;> omega
  refine wpIn_rangeFunc_ownG (α := BackA len) (w0 := W0) rfl (by decide) (gf := 95) (lb := #[.pointer (some ⟨w.heap.size + 3, 0, none⟩)]) rfl trivial (enters_of Tryz.func95 (by kernel_rfl) rfl)
    (encs := fun x => #[.int .i64 (x.1.1 : Int), .int .u8 x.1.2]) (Kp := BackK (w.heap.size + 1) (w.heap.size + 3) len) (S := fun ys => ys.map (·.1.1) = ideal len len) (Sp := fun _ => True) (N := len)
    ?seq (fun h k => h.trans k) ?kb (Below.refl _ _) (fun _ => rfl)
    (fun pre W => PutAt w N len pre W ∧ Below w.heap.size w W)
    (fun _ _ _ => False) ?own (fun _ _ _ _ _ hs _ _ => hs) ?h0
    (fun x => { tmps := #[.int .u64 (N : Int), .int .i64 (len : Int), .pointer (some ⟨w.heap.size, 0, none⟩), undef, .slice none 0 0, .int .i64 0, .pointer (some ⟨w.heap.size + 1 + 1, 0, none⟩), .int .i64 (x.1.1 : Int), .bool false, .int .i64 (len : Int), .bool false, .bool false, .int .i64 (len : Int), .bool false, .bool false, .bool false, .int .i64 (len : Int), .int .u64 (N : Int), .int .i64 t, .bool false, .int .i64 (len : Int), .slice (some ⟨w.heap.size + 1, 0, none⟩) len len, .slice (some ⟨w.heap.size + 1, 0, none⟩) len len, .func (.func 95) #[] #[.pointer (some ⟨w.heap.size + 1 + 1 + 1, 0, none⟩)], .int .i64 (x.1.1 : Int), .int .u8 x.1.2, undef, undef, undef, undef, undef, undef, undef, undef], defers := [] }) ?assign ?body ?done ?stop
  case assign =>
    intro l x W K hK
    gi_wp2
    exact hK
  case body =>
    rintro l pre x W ⟨hP, hB⟩ hlt
    obtain ⟨⟨cs, hcs, hsize, hall, hid⟩, ⟨m, hm, hn, hmk⟩, hbx⟩ := hP
    obtain ⟨v, hv⟩ := hall _ x.2
    have hc : W.cell? ⟨w.heap.size + 1, x.1.1, none⟩ = some (.int .u8 v) := by rw [cell_of_row _ _ _ _ _ _ hcs, hv]
    have hf : W.frozen? ⟨w.heap.size + 1, x.1.1, none⟩ = false := frozen_of_row _ _ _ _ _ hcs
    have hnc := hn.cell
    have hnf := hn.frozen
    have hbc : W.cell? ⟨w.heap.size + 1 + 1, 0, none⟩ = _ := hbx.cell
    have hx2 := x.2
    generalize hxi : x.1.1 = i at *
    have HX := Aside0.mk hxi
    have HL := Aside0.mk hlt
    have HB := Aside0.mk hB
    have HC := Aside0.mk hall
    have HM2 := Aside0.mk hmk
    clear hxi hlt hB hall hmk
    gi_wp2
    obtain ⟨j0, hj0⟩ : ∃ j0, j0 = w.heap.size := ⟨_, rfl⟩
    refine ⟨((KeepsOthers.setCell _ _ _).trans (KeepsOthers.setCell _ _ _)).from _, ⟨?_, fun j hj _ => ?_⟩, ⟨⟨cs.setIfInBounds i (.int .u8 ((m : Int) % 256)), ?_, ?_, ?_, ?_⟩, ⟨m / 256, by omega, ?_, ?_⟩, ?_⟩, (HB.out.setCell (by simp) _).setCell (by simp) _⟩
    · exact (cell_kept_other _ _ _ (by simp)).trans (cell_kept_other _ _ _ (by simp))
    · obtain ⟨u, hu⟩ := HC.out j hj
      by_cases e : j = i
      · subst e
        exact ⟨_, (cell_kept_other _ _ _ (by simp)).trans (World.cell?_setCell_same' _ _ _ (by rw [hc]; rfl))⟩
      · refine ⟨u, (cell_kept_other _ _ _ (by simp)).trans ?_⟩
        rw [cell_of_row _ _ _ _ _ _ (heap_setCell_same _ _ _ _ _ _ hcs), Array.getElem?_setIfInBounds, if_neg (by omega)]
        exact hu
    · exact (Below.heap_setCell _ _ _ _ (by simp)).trans (heap_setCell_same _ _ _ _ _ _ hcs)
    · rw [Array.size_setIfInBounds]; exact hsize
    · intro j hj
      rw [Array.getElem?_setIfInBounds]
      by_cases e : i = j
      · rw [if_pos e, if_pos (by omega)]; exact ⟨_, rfl⟩
      · rw [if_neg e]; exact HC.out j hj
    · intro hpre hlen
      obtain ⟨h3, h4⟩ := ideal_init hpre
      rw [List.length_append, List.length_singleton] at hlen ⊢
      rw [hid h3 (by omega), ← HX.out, h4, HM2.out]
      exact putRow_set N len pre.length (by omega)
    · have hb := (Boxed.set (.int .u64 ((m / 256 : Nat) : Int)) (show Boxed (W.setCell ⟨w.heap.size + 1, i, none⟩ (.int .u8 ((m : Int) % 256))) w.heap.size 124 (.int .u64 (m : Int)) from (Below.heap_setCell _ _ _ _ (by simp)).trans hn))
      simpa using hb
    · rw [HM2.out, List.length_append, List.length_singleton, Nat.pow_succ, Nat.div_div_eq_div_mul]
    · exact (Below.heap_setCell _ _ _ _ (by simp)).trans ((Below.heap_setCell _ _ _ _ (by simp)).trans hbx)
  case done =>
    rintro D ys W hD hys ⟨hP, hB⟩ hK
    have hbc : W.cell? ⟨w.heap.size + 1 + 1, 0, none⟩ = _ := hP.box.cell
    have HB := Aside0.mk hB
    have HP := Aside0.mk hP
    have HY := Aside0.mk hys
    clear hB hP hys
    gi_wp2
    refine ⟨by simp, .inl ⟨_, _, rfl, run_takeDeferred hK, ?_⟩⟩
    obtain ⟨cs, hcs, hsize, hall, hid⟩ := HP.out.row
    have hlen : ys.length = len := by
      have := congrArg List.length HY.out
      rw [List.length_map, ideal_length] at this
      exact this
    have hrow := hid (by rw [hlen]; exact HY.out) (by omega)
    rw [hlen] at hrow
    rw [hrow] at hcs
    have hD2 : w.heap.size + 4 ≤ D := by rw [← hsz]; exact hD
    have hcs2 : (W.putObj D (.deferred none)).heap[w.heap.size + 1]? = some (.cells (putRow N len len) 5 (0, 0)) := (World.putObj_heap_other (by omega)).trans hcs
    refine ⟨_, results_tmp2 rfl _ _ _, _, rfl, ?_, HB.out.trans (belowK_b (w := w) (Nat.le_refl _) W D _ _ (by omega) hK rfl rfl)⟩
    have hol : (octI (N : Int) len).length = len := by simp [octI]
    refine Kd.R_of_own ?_ (fun _ _ => trivial)
    show World.ownsRow _ _ _ _ (.slice (some ⟨w.heap.size + 1, 0, none⟩) len len) (octI (N : Int) len).length _
    rw [hol]
    refine ⟨by simp [encs, hol], .inr ⟨w.heap.size + 1, len, putRow N len len, rfl, by omega, hcs2, Nat.le_refl _, by simp [maxLen]; omega, by rw [putRow_size, Nat.mul_one], ?_⟩⟩
    rw [List.take_of_length_le (by simp [putRow_size])]
    simp only [putRow, encs, octI, List.map_map]
    refine List.map_congr_left fun i hi => ?_
    rw [if_neg (by omega)]
    simp
  case stop =>
    rintro D c pre W _ _ h _
    exact h.elim
  case seq =>
    intro l J Jx W hW _ _ hY hJ0
    have e1 : W.cell? ⟨w.heap.size + 3, 0, none⟩ = _ := (hW.cell (p := ⟨w.heap.size + 3, 0, none⟩) (by simp [hsz])).trans hb3.cell
    refine (backward1_in Fence.wide 5 trivial rfl (by decide) l (w.heap.size + 3) (w.heap.size + 1) len len (by omega) J Jx hY W e1 (fun j hj => ⟨0, ?_⟩) hJ0)
    rw [hW.cell (p := ⟨w.heap.size + 1, j, none⟩) (by simp [hsz]), cell_of_row _ _ _ _ _ _ hb1, ← putRow_zero N len, putRow_get _ _ _ _ hj, if_pos (by omega)]
  case kb =>
    intro W l o o' hl ho hoc _
    have hne : ∀ k, k < w.heap.size + 4 → k ≠ l := fun k hk => by omega
    refine ⟨World.cell?_of_block (World.putObj_heap_other (hne _ (by simp))), fun j hj ⟨v, hv⟩ => ⟨v, ?_⟩⟩
    exact (World.cell?_of_block (World.putObj_heap_other (hne _ (by simp)))).trans hv
  case own =>
    refine OwnFrom.and (Own.from (fun s A B row hs hg hr => ?_) _) (ownFrom_below (Nat.le_refl _) (by omega))
    obtain ⟨⟨cs, hcs, h2, h3, h4⟩, ⟨m, hm, hn, hmk⟩, hbx⟩ := hs
    exact ⟨⟨cs, (grownBy_keeps_cells hg hr hcs rfl).trans hcs, h2, h3, h4⟩, ⟨m, hm, (grownBy_keeps_cells hg hr hn rfl).trans hn, hmk⟩, (grownBy_keeps_cells hg hr hbx rfl).trans hbx⟩
  case h0 =>
    refine ⟨⟨⟨_, hb1, by rw [size_madeCells], fun j hj => ?_, fun _ _ => (putRow_zero N len).symm⟩, ⟨N, by omega, hb0, by simp⟩, hb2⟩, hB0⟩
    rw [← putRow_zero N len, putRow_get _ _ _ _ hj]
    exact ⟨_, rfl⟩
theorem octets_Put.calls (a0 a1 : Int) (r1 : List Int) (r2 : Int) (w : World) (h : octets_Put.f a0 a1 = some (r1, r2)) :
    Calls Tryz.prog 63 #[.int .u64 a0, .int .i64 a1] w fun e w' => ∃ v0_ : Value, e = .returned (.tuple #[v0_, .int .i64 r2]) ∧ Kd.R (Kd.int .u8) 5 w' w.heap.size (fun _ => True) v0_ r1 ∧ Below w.heap.size w w' := by
  unfold octets_Put.f at h
  by_cases hr : 0 ≤ a0 ∧ a0 ≤ 18446744073709551615
  case neg => rw [if_neg hr] at h; cases h
  rw [if_pos hr] at h
  by_cases h1 : a1 < 0 ∨ 64 < a1
  · rw [if_pos h1] at h
    obtain ⟨rfl, rfl⟩ := Prod.mk.inj (Option.some.inj h)
    refine (put_range a0 a1 w h1).mono ?_
    rintro e w' ⟨rfl, hb⟩
    exact ⟨_, rfl, Kd.R_nil _ _ _ _ _, hb⟩
  · rw [if_neg h1] at h
    by_cases h2 : a1 < needI a0
    · rw [if_pos h2] at h
      obtain ⟨rfl, rfl⟩ := Prod.mk.inj (Option.some.inj h)
      refine (put_big a0 a1 _ w (by omega) (by omega) (need_is a0 hr.1 hr.2) h2).mono ?_
      rintro e w' ⟨rfl, hb⟩
      exact ⟨_, rfl, Kd.R_nil _ _ _ _ _, hb⟩
    · rw [if_neg h2] at h
      obtain ⟨rfl, rfl⟩ := Prod.mk.inj (Option.some.inj h)
      exact put_main a0 a1 _ w hr.1 hr.2 (by omega) (by omega) (need_is a0 hr.1 hr.2) h2

/-! ### dir_Encode: function 43 -/
/-- One entry's octets; all entries'. -/
def encE (x : S88) : List Int := (x.f0.size : Int) :: (bytesOf x.f0 ++ octI x.f1 4)
def encA (l : List S88) : List Int := l.flatMap encE
theorem encA_snoc (l : List S88) (x : S88) : encA (l ++ [x]) = encA l ++ encE x := by simp [encA, List.flatMap_append]
def encOk (l : List S88) : Bool := decide (l.length ≤ 63) && l.all fun x => decide (x.f0.size ≤ 16) && decide (1 ≤ x.f1) && decide (x.f1 ≤ 2147483647)
def dir_Encode.f (k : Nat) (l0 : List S88) : Option (List Int × Int) := (dir_Check.f k l0).bind fun t => if t = 0 then (if encOk l0 = true then some (encA l0, 0) else none) else some ([], t)
theorem dir_Encode.mono : ∀ a0 k, LeO (dir_Encode.f k a0) (dir_Encode.f (k + 1) a0) := by
  intro a0 k
  unfold dir_Encode.f
  exact LeO.bind (dir_Check.mono a0 k) (fun _ => LeO.refl _)
theorem encE_length (x : S88) : (encE x).length = x.f0.size + 5 := by simp [encE, bytesOf_length, octI]
theorem encA_length : ∀ (l : List S88), (∀ x ∈ l, x.f0.size ≤ 16) → (encA l).length ≤ 21 * l.length
  | [], _ => by simp [encA]
  | x :: r, h => by
    have h1 := encA_length r (fun y hy => h y (List.mem_cons_of_mem _ hy))
    have h2 := h x List.mem_cons_self
    show (encE x ++ encA r).length ≤ _
    rw [List.length_append, encE_length, List.length_cons]
    omega
theorem need4 {n : Int} (h0 : 1 ≤ n) (h1 : n ≤ 2147483647) : octets_Put.f n 4 = some (octI n 4, 0) := by
  unfold octets_Put.f
  have : needI n ≤ 4 := by unfold needI; repeat' split
                           all_goals omega
  rw [if_pos ⟨by omega, by omega⟩, if_neg (by omega), if_neg (by omega)]
  rfl
/-- Four slices in a new row. -/
theorem C_four {W : World} {b : Nat} {v0 v1 v2 v3 : Value} {t : TypeId} {fr : Nat × Nat} {l0 l1 l2 l3 : List Int} (hb : W.heap[b]? = some (.cells #[v0, v1, v2, v3] t fr))
    (h0 : ∃ A c, v0 = .slice A l0.length c ∧ l0.length ≤ c ∧ (Kd.int .u8).C W A l0.length l0) (h1 : ∃ A c, v1 = .slice A l1.length c ∧ l1.length ≤ c ∧ (Kd.int .u8).C W A l1.length l1)
    (h2 : ∃ A c, v2 = .slice A l2.length c ∧ l2.length ≤ c ∧ (Kd.int .u8).C W A l2.length l2) (h3 : ∃ A c, v3 = .slice A l3.length c ∧ l3.length ≤ c ∧ (Kd.int .u8).C W A l3.length l3) :
    Kd.C (Kd.slice 5 (Kd.int .u8)) W (some ⟨b, 0, none⟩) 4 [l0, l1, l2, l3] := by
  have cell : ∀ (j : Nat) (v : Value), (#[v0, v1, v2, v3] : Array Value)[j]? = some v → W.cell? ((⟨b, 0, none⟩ : Addr).add (j * 1 + 0)) = some v := fun j v hv => by
    have ha : (⟨b, 0, none⟩ : Addr).add (j * 1 + 0) = ⟨b, j, none⟩ := by
      unfold Addr.add
      by_cases h0 : j = 0 <;> simp [h0]
    rw [ha, cell_of_row _ _ _ _ _ _ hb]
    exact hv
  have one : ∀ (j : Nat) (v : Value) (l : List Int), (#[v0, v1, v2, v3] : Array Value)[j]? = some v → (∃ A c, v = .slice A l.length c ∧ l.length ≤ c ∧ (Kd.int .u8).C W A l.length l) → ∃ c, c.length = (Kd.slice 5 (Kd.int .u8)).sz ∧ (Kd.slice 5 (Kd.int .u8)).K W l c ∧ ∀ i u, c[i]? = some u → W.cell? ((⟨b, 0, none⟩ : Addr).add (j * (Kd.slice 5 (Kd.int .u8)).sz + i)) = some u := by
    rintro j v l hv ⟨A, c, rfl, hc, hC⟩
    refine ⟨[.slice A l.length c], rfl, ⟨A, c, rfl, hc, hC⟩, fun i u hu => ?_⟩
    have hi : i = 0 := by
      have := (List.getElem?_eq_some_iff.1 hu).1
      simpa using this
    subst hi
    simp at hu
    subst hu
    exact cell j _ hv
  refine ⟨rfl, by decide, fun _ => ⟨_, rfl, fun j p hj => ?_⟩⟩
  match j, hj with
  | 0, hj => cases hj; exact one 0 _ _ rfl h0
  | 1, hj => cases hj; exact one 1 _ _ rfl h1
  | 2, hj => cases hj; exact one 2 _ _ rfl h2
  | 3, hj => cases hj; exact one 3 _ _ rfl h3
  | j + 4, hj => simp at hj
theorem C_of_rowE {W : World} {b off : Nat} {cs : Array Value} {t : TypeId} {fr : Nat × Nat} {l : List Int} (hb : W.heap[b]? = some (.cells cs t fr)) (hl : l.length ≤ 9223372036854775807) (hc : ∀ k, (h : k < l.length) → cs[off + k]? = some (.int .u8 l[k])) :
    Kd.C (Kd.int .u8) W (some ⟨b, off, none⟩) l.length l := by
  refine ⟨rfl, hl, fun _ => ⟨_, rfl, fun j p hp => ⟨[Value.int .u8 p], rfl, rfl, fun i u hu => ?_⟩⟩⟩
  have hi : i = 0 := by
    have := (List.getElem?_eq_some_iff.1 hu).1
    simpa using this
  subst hi
  simp at hu
  subst hu
  obtain ⟨hj, rfl⟩ := List.getElem?_eq_some_iff.1 hp
  have ha : (⟨b, off, none⟩ : Addr).add (j * (Kd.int .u8).sz + 0) = ⟨b, off + j, none⟩ := by
    show (⟨b, off, none⟩ : Addr).add (j * 1 + 0) = _
    unfold Addr.add
    by_cases h0 : j = 0 <;> simp [h0]
  rw [ha, cell_of_row _ _ _ _ _ _ hb]
  exact hc j hj
theorem four_enc {W2 : World} {n : ByteArray} {Ao A2 : Option Addr} {co c2 : Nat} {l m : List Int} (h0 : l.length ≤ co ∧ (Kd.int .u8).C W2 Ao l.length l) (h3 : m.length ≤ c2 ∧ (Kd.int .u8).C W2 A2 m.length m) (hn : n.size ≤ 16) :
    Kd.C (Kd.slice 5 (Kd.int .u8)) ((Lib.bytesWorld (W2.alloc (.cells #[.int .u8 (n.size : Int)] 5)) 5 n).alloc (.cells #[.slice Ao l.length co, .slice (some ⟨W2.heap.size, 0, none⟩) 1 1, .slice (some ⟨W2.heap.size + 1, 0, none⟩) n.size (grownCap (W2.alloc (.cells #[.int .u8 (n.size : Int)] 5)) n.size 0 5), .slice A2 m.length c2] 41))
      (some ⟨(Lib.bytesWorld (W2.alloc (.cells #[.int .u8 (n.size : Int)] 5)) 5 n).heap.size, 0, none⟩) 4 [l, [(n.size : Int)], bytesOf n, m] := by
  have B1 : Below W2.heap.size W2 (W2.alloc (.cells #[.int .u8 (n.size : Int)] 5)) := (Below.refl _ _).alloc (Nat.le_refl _) _
  have B2 := bytes_below (Below.refl (W2.alloc (.cells #[.int .u8 (n.size : Int)] 5)).heap.size _) (Nat.le_refl _) 5 n
  have C2 : ∀ {A : Option Addr} {k : Nat} {xs : List Int}, (Kd.int .u8).C (W2.alloc (.cells #[.int .u8 (n.size : Int)] 5)) A k xs → ∀ o, (Kd.int .u8).C ((Lib.bytesWorld (W2.alloc (.cells #[.int .u8 (n.size : Int)] 5)) 5 n).alloc o) A k xs := fun h o => Kd.C_alloc (Kd.C_below h B2) o
  refine C_four (heap_alloc_new _ _) ⟨_, _, rfl, h0.1, C2 (Kd.C_below h0.2 B1) _⟩ ⟨_, _, rfl, Nat.le_refl _, C2 (C_of_rowE (blk_new _ _) (by simp) (fun k hk => ?_)) _⟩ ⟨some ⟨W2.heap.size + 1, 0, none⟩, _, by rw [bytesOf_length], by rw [bytesOf_length]; exact grownCap_ge _ _ _ _, ?_⟩ ⟨_, _, rfl, h3.1, C2 (Kd.C_below h3.2 B1) _⟩
  · have h0 : k = 0 := by simpa using hk
    subst h0
    rfl
  · refine Kd.C_alloc ?_ _
    have h := bytes_reads (W2.alloc (.cells #[.int .u8 (n.size : Int)] 5)) 5 n (by omega)
    rw [show (W2.alloc (.cells #[.int .u8 (n.size : Int)] 5)).heap.size = W2.heap.size + 1 by simp] at h
    rw [bytesOf_length]
    exact Kd.C_of_reads (d := (0 : Int)) h
theorem enc_flat {l : List Int} {n : ByteArray} {m : Int} (hl : l.length ≤ 1323) (hn : n.size ≤ 16) : slices_Concat_byte_byte.f [l, [(n.size : Int)], bytesOf n, octI m 4] = some (l ++ encE ⟨n, m⟩) := by
  unfold slices_Concat_byte_byte.f
  have e : [l, [(n.size : Int)], bytesOf n, octI m 4].flatten = l ++ encE ⟨n, m⟩ := by simp [encE]
  rw [e, if_pos (by rw [List.length_append, encE_length]; show l.length + (n.size + 5) < _; omega)]
set_option maxHeartbeats 8000000 in
set_option maxRecDepth 100000 in
theorem dir_Encode.calls (k : Nat) (A0 : Option Addr) (c0 : Nat) (l0 : List S88) (r1 : List Int) (r2 : Int) (w : World) (hr0 : Kd.C k88 w A0 l0.length l0) (hc0 : l0.length ≤ c0) (h : dir_Encode.f k l0 = some (r1, r2)) :
    Calls Tryz.prog 43 #[.slice A0 l0.length c0] w fun e w' => ∃ v0_ : Value, e = .returned (.tuple #[v0_, .int .i64 r2]) ∧ Kd.R (Kd.int .u8) 5 w' w.heap.size (fun _ => True) v0_ r1 ∧ Below w.heap.size w w' := by
  have hu88 := Tryz.underlying88
  have HR0 := Aside0.mk hr0
  have HC0 := Aside0.mk hc0
  clear hr0 hc0
  unfold dir_Encode.f at h
  obtain ⟨t, ht, h⟩ := Option.bind_eq_some_iff.mp h
  have HT := Aside0.mk ht
  clear ht
  by_cases ht0 : t = 0
  case neg =>
    rw [if_neg ht0] at h
    obtain ⟨rfl, rfl⟩ := Prod.mk.inj (Option.some.inj h)
    clear h
    have hne : (t != 0) = true := bne_iff_ne.mpr ht0
    have hne2 : (t == 0) = false := by simpa using ht0
    go_enter Tryz.func43, Tryz.ntmps43
    go_wp2_with (go_at_call 57; refine (dir_Check.calls k _ _ l0 t _ HR0.out HC0.out HT.out).mono ?_; rintro e w1 ⟨rfl, hb⟩; have HB1 := Aside0.mk hb; clear hb)
    go_ret2
    exact ⟨_, rfl, Kd.R_nil _ _ _ _ _, HB1.out⟩
  case pos =>
    subst ht0
    rw [if_pos rfl] at h
    by_cases hok : encOk l0 = true
    case neg => rw [if_neg hok] at h; cases h
    rw [if_pos hok] at h
    obtain ⟨rfl, rfl⟩ := Prod.mk.inj (Option.some.inj h)
    clear h
    have hok2 : l0.length ≤ 63 ∧ ∀ x ∈ l0, x.f0.size ≤ 16 ∧ 1 ≤ x.f1 ∧ x.f1 ≤ 2147483647 := by
      simp only [encOk, Bool.and_eq_true, decide_eq_true_eq, List.all_eq_true] at hok
      exact ⟨hok.1, fun x hx => ⟨(hok.2 x hx).1.1, (hok.2 x hx).1.2, (hok.2 x hx).2⟩⟩
    clear hok
    have HOK := Aside0.mk hok2
    clear hok2
    go_enter Tryz.func43, Tryz.ntmps43
    go_wp2_with (go_at_call 57; refine (dir_Check.calls k _ _ l0 0 _ HR0.out HC0.out HT.out).mono ?_; rintro e w1 ⟨rfl, hb⟩; have HB1 := Aside0.mk hb; clear hb)
    go_loopw [5, 17] (fun b i W => ∃ j : Nat, j ≤ l0.length ∧ i = .int .i64 (j : Int) ∧ Aside0 (Kd.R (Kd.int .u8) 5 W w.heap.size (fun _ => True) b (encA (l0.take j))) ∧ Aside0 (Below w.heap.size w W)) (fun _ i _ => l0.length - (intOf i).toNat)
    case atStart => exact ⟨0, Nat.zero_le _, rfl, ⟨Kd.R_nil _ _ _ _ _⟩, HB1⟩
    case round =>
      clear HB1
      obtain ⟨j, hj, rfl, HO, HB⟩ := hrel
      by_cases hlt : j < l0.length
      · have hd : decide ((j : Int) < (l0.length : Int)) = true := by simp; omega
        have HX := Aside0.mk (HOK.out.2 l0[j] (List.getElem_mem hlt))
        have HS := Aside0.mk (show encA (l0.take (j + 1)) = encA (l0.take j) ++ encE l0[j] by rw [List.take_succ_eq_append_getElem hlt, encA_snoc])
        have HL := Aside0.mk (show (encA (l0.take j)).length ≤ 1323 by
          have h1 := encA_length (l0.take j) (fun x hx => (HOK.out.2 x (List.mem_of_mem_take hx)).1)
          have h2 := HOK.out.1
          rw [List.length_take] at h1
          omega)
        obtain ⟨ad, rfl, hx0, hx1⟩ := at_T88 (Kd.C_below HR0.out HB.out) (j : Int) (by omega) (by omega)
        have hx : rd_T88 l0 (j : Int) = l0[j] := by unfold rd_T88; simp [List.getD_eq_getElem?_getD, hlt]
        rw [hx] at hx0 hx1
        clear hx
        generalize l0[j] = x at *
        obtain ⟨n, m⟩ := x
        simp only [Int.toNat_natCast] at hx0 hx1
        obtain ⟨Ao, co, eo⟩ := Kd.R_slice HO.out
        subst eo
        have hm1 := HX.out.2.1
        have hm2 := HX.out.2.2
        have hn := HX.out.1
        simp only at hm1 hm2 hn
        have hw1 : IntKind.u64.wrap m = m := by simp [IntKind.wrap, IntKind.bits, IntKind.signed]; omega
        have hw2 : IntKind.u8.wrap (n.size : Int) = (n.size : Int) := by simp [IntKind.wrap, IntKind.bits, IntKind.signed]; omega
        have HP := Aside0.mk (need4 hm1 hm2)
        clear hm1 hm2 hn
        have kb := fun W => print_bytes (P := Tryz.prog) 9 41 5 Tryz.underlying9 Tryz.underlying41 Tryz.underlying5 n W
        go_wp2_with (first
          | ((with_reducible refine gate_dst (N := 7) rfl ?_); refine box_event ?hg (N := 7) ?hd (cs := #[.string (⟨#[]⟩ : ByteArray), .int .i64 0]) (t := 88) ?hr ?_; (case hd => rfl); (case hg => rfl); (case hr => first | (go_simp; done) | (go_simp; rfl)); intro gb hg w13 hbox hb; have HB2 := Aside0.mk (below_step HB.out hb); have BK := Aside0.mk hbox; have GE := Aside0.mk (by rw [hg]; exact below_size HB.out : w.heap.size ≤ gb); have HBB := Aside0.mk hb; have GE2 := Aside0.mk (by rw [hg]; exact Nat.le_refl _ : wr.heap.size ≤ gb); have HO2 := Aside0.mk (Kd.R_below HO.out hb); clear hb hbox hg; have hcz_0 : w13.cell? ⟨gb, 0, none⟩ = some (.string (⟨#[]⟩ : ByteArray)) := (blk_cell BK.out 0).trans rfl; have hcz_1 : w13.cell? ⟨gb, 1, none⟩ = some (.int .i64 0) := (blk_cell BK.out 1).trans rfl; have hfz_0 := blk_frozen BK.out 0; have hfz_1 := blk_frozen BK.out 1)
          | (go_at_call 63; refine (octets_Put.calls m 4 (octI m 4) 0 _ HP.out).mono ?_; rintro e w2 ⟨v2, rfl, ho, hb⟩
             have HBW := below_set (j := 1) (v := .int .i64 m) (below_set (j := 0) (v := .string n) HBB.out GE2.out) GE2.out
             have BK1 : ((w13.setCell ⟨gb, 0, none⟩ (.string n)).setCell ⟨gb, 1, none⟩ (.int .i64 m)).heap[gb]? = some (.cells #[.string n, .int .i64 m] 88 (0, 0)) := by
               refine blk_put (cs := #[.string n, .int .i64 0]) ?_ 1 _ rfl
               exact blk_put (cs := #[.string (⟨#[]⟩ : ByteArray), .int .i64 0]) BK.out 0 _ rfl
             have BK2 := Aside0.mk (blk_below BK1 hb)
             have HBB2 := Aside0.mk (below_step HBW hb)
             have HO3 := Aside0.mk (Kd.R_below HO.out HBB2.out)
             have HV := Aside0.mk ho
             clear hb ho HBW BK1 HBB HO2 HO HB2 hcz_0 hcz_1 hfz_0 hfz_1 BK GE GE2
             obtain ⟨A2, c2, e2⟩ := Kd.R_slice HV.out
             subst e2
             have hcl := (blk_cell BK2.out 0).trans rfl
             have hcl2 := fun o => (blk_cell (blk_alloc BK2.out o) 0).trans rfl)
          | (go_at_call 64; refine (slices_Concat_byte_byte.calls _ 4 [encA (l0.take j), [(n.size : Int)], bytesOf n, octI m 4] _ _ (four_enc ⟨(Kd.R_reads' HO3.out).2.1, (Kd.R_reads' HO3.out).2.2⟩ ⟨(Kd.R_reads' HV.out).2.1, (Kd.R_reads' HV.out).2.2⟩ HX.out.1) (by simp) (enc_flat HL.out HX.out.1)).mono ?_; rintro e w4 ⟨v4, rfl, ho, hb⟩
             have HB3 := below_step (below_alloc (bytes_below (below_alloc (below_step HB.out (Below.mono (HBB2.out) (Nat.le_refl _))) (.cells #[.int .u8 (n.size : Int)] 5)) (by have := below_size HB.out; have := HBB2.out.size; simp; omega) 5 n) _) hb
             have HO4 := Aside0.mk ho
             have HB4 := Aside0.mk HB3
             clear ho hb HB3))
        have hk63 := HOK.out.1
        have HJ : wrap64 ((j : Int) + 1) = ((j + 1 : Nat) : Int) := by unfold wrap64; omega
        rw [HJ]
        refine ⟨⟨j + 1, by omega, rfl, ⟨?_⟩, HB4⟩, ?_⟩
        · rw [HS.out]; exact Kd.R_lower HO4.out (by have h1 := below_size HB.out; have h2 := HBB2.out.size; simp [Lib.bytesWorld_size]; omega)
        · simp [intOf]; omega
      · obtain rfl : j = l0.length := by omega
        rw [List.take_length] at HO
        have hd : decide ((l0.length : Int) < (l0.length : Int)) = false := by simp
        go_wp2
        go_ret2
        exact ⟨_, rfl, HO.out, HB.out⟩

end Go.Proofs.YtfakjmjkodkceaaGreatDoor.PImw
