-- Written by a program of this session (gen.py).
import Derived.Test.YtokjiinlhghggaaDoorPTelx0
import Derived.Test.YtokjiinlhghggaaDoorPTelx1
import Derived.Test.YtokjiinlhghggaaDoorPTelx2
import Derived.Test.YtokjiinlhghggaaDoorPTelx3
import Derived.Test.YtokjiinlhghggaaDoorPTelx4
namespace Go.Proofs.YtokjiinlhghggaaDoor.PTel
open Go.RowKit Go.Proofs.YtokjiinlhghggaaDoorW.PrintWords Go.Proofs.YtokjiinlhghggaaDoorW.PrintLast Go.Proofs.YtokjiinlhghggaaDoorW.PrintMore
open Go.Proofs.YtokjiinlhghggaaDoor.Own
attribute [local go_sem high] unary_not_u32 unary_not_u64 unary_not_u8 string_leq_ string_gtr_
attribute [local go_sem] max2_int min2_int max_two min_two max_three min_three max_four min_four   -- for this text's walks alone
set_option linter.unusedVariables false
set_option linter.unusedSimpArgs false

/-! ### segment_Open: function 13 -/
section
open Go.Shelf
attribute [local go_sem] Oper.semAt_some
theorem chunk_in (F : Fence) (n : Nat) (h5 : F.fn 31) (hro : F.round = none) (a : Option Addr) (len cap : Nat) (w : World) :
    CallsIn F n Tryd.prog 31 #[.slice a len cap, .int .i64 6] w fun e w' => e = .returned (.func (.func 49) #[] #[.pointer (some ⟨w.heap.size, 0, none⟩), .pointer (some ⟨w.heap.size + 1, 0, none⟩)]) ∧ w' = (w.alloc (.cells #[.slice a len cap] 25)).alloc (.cells #[.int .i64 6] 3) := by
  refine callsIn_of_wp Tryd.func31 rfl h5 ?_ hro
  simp only [Tryd.ntmps31, List.size_toArray, List.length_cons, List.length_nil, Nat.reduceAdd, Nat.reduceSub, Array.replicate_succ, Array.replicate_zero, List.push_toArray, List.append_toArray, List.nil_append, List.cons_append]
  gi_wp2
  go_ret
  exact ⟨rfl, rfl⟩
/-- What a round keeps: the two boxes. -/
def ChunkK (b0 b1 : Nat) (W W' : World) : Prop := W'.cell? ⟨b0, 0, none⟩ = W.cell? ⟨b0, 0, none⟩ ∧ W'.cell? ⟨b1, 0, none⟩ = W.cell? ⟨b1, 0, none⟩
theorem ChunkK.refl (b0 b1 : Nat) (W : World) : ChunkK b0 b1 W W := ⟨rfl, rfl⟩
theorem ChunkK.trans {b0 b1 : Nat} {A B C : World} (h : ChunkK b0 b1 A B) (k : ChunkK b0 b1 B C) : ChunkK b0 b1 A C := ⟨k.1.trans h.1, k.2.trans h.2⟩
theorem cut_three (t e : TypeId) {P : Program} {i : TypeInfo} (ht : P.underlying t = some (.slice e)) (hi : P.info? e = some i) (hs : i.size = 1) (g o n c : Nat) (lo hi' : Nat) (h1 : lo < hi') (h2 : hi' ≤ c) (W : World) :
    (Instr.slice t (.slice (some ⟨g, o, none⟩) n c) (some (.int .i64 (lo : Int))) (some (.int .i64 (hi' : Int))) (some (.int .i64 (hi' : Int)))).run P W = .ok (.slice (some ⟨g, o + lo, none⟩) (hi' - lo) (hi' - lo)) W := by
  have hel : P.elem t = e := by simp [Program.elem, ht]
  have hu : P.underlying t = some (.slice (P.elem t)) := by rw [hel]; exact ht
  rw [run_slice_lhm W t (some ⟨g, o, none⟩) n c hu .i64 .i64 .i64 (lo : Int) (hi' : Int) (hi' : Int) (by omega) (by omega) (by omega) (by omega), hel]
  have hne : ¬ (hi' = lo) := by omega
  by_cases e : lo = 0
  · subst e
    simp [sizeOf, typeInfo, hi, hs, sliced, Result.andThen, Addr.add, hne]
  · simp [sizeOf, typeInfo, hi, hs, sliced, Result.andThen, Addr.add, hne, e]
theorem chunk_less {m c : Nat} {i : Int} (h : c < 6 * m) (e : i.toNat = c + 6) : 6 * m - (intOf (.int .i64 i)).toNat < 6 * m - (intOf (.int .i64 (c : Int))).toNat := by
  simp only [intOf, e, Int.toNat_natCast]; omega
set_option maxRecDepth 100000 in
set_option maxHeartbeats 4000000 in
theorem chunk1_in (F : Fence) (n : Nat) (h7 : F.fn 49) (hro : F.round = none) (hn : 1 ≤ n) (l b0 b1 g o m cap : Nat) (hm : m ≤ 8) (hcap : 6 * m ≤ cap) (J Jx : List Nat → World → Prop) (hJd : ∀ s W, J s W → J s W.drew)
    (hY : ∀ pre x W, J pre W → pre.length < m → x < m → YieldAt F (n - 1) Tryd.prog l #[.slice (some ⟨g, o + 6 * x, none⟩) 6 6] W fun e W' =>
      (e = .returned (.bool true) ∧ J (pre ++ [x]) W' ∧ ChunkK b0 b1 W W') ∨ (e = .returned (.bool false) ∧ Jx (pre ++ [x]) W'))
    (W : World) (hs : W.cell? ⟨b0, 0, none⟩ = some (.slice (some ⟨g, o, none⟩) (6 * m) cap)) (h6 : W.cell? ⟨b1, 0, none⟩ = some (.int .i64 6)) (h0 : J [] W) :
    CallsIn F n Tryd.prog 49 #[.func (.yield l) #[] #[], .pointer (some ⟨b0, 0, none⟩), .pointer (some ⟨b1, 0, none⟩)] W fun e W' => (∃ v, e = .returned v) ∧
      ((∃ ys, ys = List.range m ∧ J ys W') ∨ (∃ pre, True ∧ Jx pre W')) := by
  refine callsIn_of_wp Tryd.func49 rfl h7 ?_ hro
  simp only [Tryd.ntmps49, List.size_toArray, List.length_cons, List.length_nil, Nat.reduceAdd, Nat.reduceSub, Array.replicate_succ, Array.replicate_zero, List.push_toArray, List.append_toArray, List.nil_append, List.cons_append]
  obtain ⟨i0, hi0, hz0, hs0, _⟩ := info_parts info5
  gi_wp2
  gi_loopw [4] (fun i wr => ∃ k : Nat, k ≤ m ∧ i = .int .i64 ((6 * k : Nat) : Int) ∧ J (List.range k) wr ∧ Aside0 (ChunkK b0 b1 W wr))
    (fun i _ => 6 * m - (intOf i).toNat)
  case atStart => exact ⟨0, by omega, by simp, h0, ⟨ChunkK.refl _ _ _⟩⟩
  case round =>
    obtain ⟨k, hk, rfl, hJs, hK⟩ := hrel
    have hB0 : wr.cell? ⟨b0, 0, none⟩ = some (.slice (some ⟨g, o, none⟩) (6 * m) cap) := hK.out.1.trans hs
    have hB1 : wr.cell? ⟨b1, 0, none⟩ = some (.int .i64 6) := hK.out.2.trans h6
    by_cases hlt : k < m
    · obtain ⟨fn, tmps, assign, body, hy, hR⟩ := hY (List.range k) k wr.drew (hJd _ _ hJs) (by simpa using hlt) hlt
      obtain ⟨c, hc⟩ : ∃ c : Nat, c = 6 * k := ⟨_, rfl⟩
      have HC := Aside0.mk hc
      have hclt : c < 6 * m := by omega
      rw [← hc] at hy ⊢
      have hd : decide ((c : Int) < ((6 * m : Nat) : Int)) = true := by simp; omega
      obtain ⟨N, hN⟩ : ∃ N, N = 6 * m := ⟨_, rfl⟩
      rw [← hN] at hB0 hd hclt
      have HN := Aside0.mk hN
      have hcut : ∀ W : World, (Instr.slice 25 (.slice (some ⟨g, o, none⟩) N cap) (some (.int .i64 (c : Int))) none none).run Tryd.prog W = .ok (.slice (some ⟨g, o + c, none⟩) (N - c) (cap - c)) W := fun W => by
        have := cut_from (P := Tryd.prog) 25 5 .i64 Tryd.underlying25 hi0 1 hs0 (some ⟨g, o, none⟩) N cap (c : Int) (by omega) (by omega) W
        rw [Int.toNat_natCast, if_neg (by omega)] at this
        rw [this]
        simp only [Option.map_some, Addr.add, Nat.mul_one]
        by_cases e : c = 0 <;> simp [e]
      have hmin : (if ((N - c : Nat) : Int) < 6 then ((N - c : Nat) : Int) else 6) = 6 := if_neg (by omega)
      have hw1 : wrap64 ((c : Int) + 6) = (c : Int) + 6 := by unfold wrap64; omega
      have hcut3 : ∀ W : World, (Instr.slice 25 (.slice (some ⟨g, o, none⟩) N cap) (some (.int .i64 (c : Int))) (some (.int .i64 ((c : Int) + 6))) (some (.int .i64 ((c : Int) + 6)))).run Tryd.prog W = .ok (.slice (some ⟨g, o + c, none⟩) (c + 6 - c) (c + 6 - c)) W := fun W => cut_three 25 5 (P := Tryd.prog) Tryd.underlying25 hi0 hs0 g o N cap c (c + 6) (by omega) (by omega) W
      have e6 : c + 6 - c = 6 := by omega
      rw [e6] at hcut3
      clear hc hN hi0 hs0 hz0 hcap hm
      have HP : List.range k ++ [k] = List.range (k + 1) := List.range_succ.symm
      rw [HP] at hR
      have HPP := Aside0.mk HP
      clear HP
      gi_wp2
      refine Code.wpIn_mono (Q := fun e a' w' => e = .normal ∧ w' = wr.drew ∧ a' = { tmps := #[.func (.yield l) #[] #[], .pointer (some ⟨b0, 0, none⟩), .pointer (some ⟨b1, 0, none⟩), undef, .int .i64 (c : Int), .int .i64 6, .int .i64 (c : Int), .slice (some ⟨g, o, none⟩) N cap, .int .i64 (N : Int), .bool true, u10, u11, u12, .int .i64 6, .slice (some ⟨g, o, none⟩) N cap, .int .i64 (c : Int), .slice (some ⟨g, o + c, none⟩) (N - c) (cap - c), .int .i64 ((N - c : Nat) : Int), .int .i64 6, u19, u20, u21, u22, u23, u24, u25, u26, u27, u28, u29, u30], defers := [] }) ?rest ?reg
      case reg =>
        clear hY hR hy hJd hJs
        as_aux_lemma =>
          gi_region
          all_goals exact ⟨rfl, rfl, rfl⟩
      case rest =>
        rintro e a' w' ⟨rfl, rfl, rfl⟩
        clear hcut hmin
        gi_wp2
        refine hR.mono ?_
        rintro e W3 (⟨rfl, hJ3, hk3⟩ | ⟨rfl, hJx3⟩)
        · have hB3 : W3.cell? ⟨b1, 0, none⟩ = some (.int .i64 6) := hk3.2.trans hB1
          gi_wp2
          go_roundw
          case rel => exact ⟨k + 1, by omega, by have h1_ := HC.out; congr 1; omega, hJ3, ⟨hK.out.trans hk3⟩⟩
          case measure =>
            have h1_ := HC.out
            have h2_ := HN.out
            have e1 : (wrap64 ((c : Int) + 6)).toNat = c + 6 := by rw [hw1]; exact Int.toNat_natCast (c + 6)
            exact chunk_less (by rw [← h2_]; exact hclt) e1
        · gi_wp2
          refine bodyPost_ret (results_none rfl _ _ _) rfl ?_
          exact ⟨⟨_, rfl⟩, .inr ⟨_, trivial, hJx3⟩⟩
    · obtain rfl : k = m := by omega
      have hd : decide (((6 * k : Nat) : Int) < ((6 * k : Nat) : Int)) = false := by simp
      gi_wp2
      go_end0
      exact ⟨⟨_, rfl⟩, .inl ⟨_, rfl, hJs⟩⟩
end
section
open Go.Shelf
/-- What an operation does in an activation of a function it does in a round: no defer. -/
theorem oper_round {P : Program} {o : Oper} {a : Act} {w : World} {K : Act → World → Prop} {Q : Exit → Act → World → Prop} (l n : Nat) (hd : ∀ c, o.op ≠ .defer c) (h : o.wp P a w K Q) : o.wpIn (Fence.wide.inRound l) n P a w K Q := by
  refine ⟨fun _ _ => trivial, ?_⟩
  rw [Oper.semAt_plain _ _ _ hd]
  unfold Oper.wp at h
  generalize (execOp a.eval o).run P w = r at *
  cases r with
  | ok x w' =>
    cases x <;> simp only [Oper.upon, Oper.uponIn] at h ⊢ <;> first | exact h | skip
    case enter f args => exact ⟨fun h0 => by simp [Fence.wide, Fence.inRound] at h0, callsIn_wide.2 h⟩
    case row row args =>
      refine ⟨fun h0 => by simp [Fence.wide, Fence.inRound] at h0, ?_⟩
      intro c cs _
      obtain ⟨v, w'', hv, hs⟩ := h c cs
      exact ⟨v, w'', hv, stepsIn_wide.2 hs⟩
  | halt x w' => cases x <;> simp only [Oper.upon, Oper.uponIn] at h ⊢ <;> exact h
theorem any_round {P : Program} {md : Region.Mode} {ops : Array Oper} {Q : Exit → Act → World → Prop} (l n : Nat) (hQ : ¬ LetsOut Q) (hd : ∀ (i : Nat) (o : Oper) c, ops[i]? = some o → o.op ≠ .defer c) :
    ∀ (fuel : Nat) (listed : Array Bool) (a : Act) (w : World), wpAny P md ops Q fuel listed a w → wpAnyIn (Fence.wide.inRound l) n P md ops Q fuel listed a w
  | 0, _, _, _, h => h
  | fuel + 1, listed, a, w, h => by
    refine ⟨h.1, fun i hi => ?_⟩
    have h1 := h.2 i hi
    unfold wpOp at h1
    unfold wpOpIn
    cases ho : ops[i]? with
    | none => rw [ho] at h1; exact any_round l n hQ hd fuel _ a w h1
    | some o =>
      rw [ho] at h1
      simp only at h1 ⊢
      by_cases hw : Region.wanted o (yielded ops a.tmps) = true
      · rw [if_pos hw] at h1
        rw [if_pos hw]
        rcases h1 with h1 | ⟨_, h2⟩
        · exact oper_round l n (fun c => hd i o c ho) (Oper.wp_mono (fun a' w' h' => any_round l n hQ hd fuel _ a' w' h') h1)
        · exact absurd h2 hQ
      · rw [if_neg hw] at h1
        rw [if_neg hw]
        exact ⟨fun _ _ => trivial, any_round l n hQ hd fuel _ _ w h1⟩
def noDefer (ops : Array Oper) : Bool := ops.all fun o => match o.op with | .defer _ => false | _ => true
/-- The start of a region that draws its order, in a round of a loop over a function. -/
theorem start_in {P : Program} {ops : Array Oper} {Q : Exit → Act → World → Prop} {S : World → Prop} {ds : List Nat} {r d : Nat} {id n : Nat} {a : Act} {w : World} (l : Array Bool) (hm : P.follows .mixedOrders = true) (hn : ops.size = n) (hl : Array.replicate n false = l) (hd : noDefer ops = true) (hQ : ¬ LetsOut Q) (hS : S w.drew)
    (h : S w.drew → wpAnyLast P .any ops Q S ds n l a w.drew) : (Code.region id ops true).wpIn (Fence.wide.inRound r) d P Q a w := by
  subst hn
  subst hl
  refine wpIn_region_any hm (any_round r d hQ ?_ _ _ _ _ (wpAny_of_last _ _ _ _ (h hS)))
  intro i o c ho hop
  unfold noDefer at hd
  rw [Array.all_eq_true] at hd
  obtain ⟨hi, he⟩ := Array.getElem?_eq_some_iff.1 ho
  have h1 := hd i hi
  rw [he, hop] at h1
  cases h1
end
def maxI (l : List Int) : Int := (l.drop 1).foldl mx (rd l 0)
set_option maxHeartbeats 4000000 in
set_option maxRecDepth 100000 in
theorem max_calls (A : Option Addr) (c : Nat) (l : List Int) (w : World) (hr : Kd.C (Kd.int .u8) w A l.length l) (h0 : 0 < l.length) (hn : l.length ≤ 4611686018427387904) :
    Calls Tryd.prog 33 #[.slice A l.length c] w fun e w' => e = .returned (.int .u8 (maxI l)) ∧ w' = w := by
  have HR := Aside0.mk hr
  obtain ⟨ad, rfl, hx0⟩ := Kd.at_int hr 0 (by omega) (by omega)
  have hx : w.cell? ad = some (.int .u8 (rd l 0)) := by
    have e : ad.add (0 : Int).toNat = ad := by simp [Addr.add]
    rwa [e] at hx0
  obtain ⟨N, hN⟩ : ∃ N, N = l.length := ⟨_, rfl⟩
  have HN := Aside0.mk hN
  rw [← hN] at h0 hn ⊢
  clear hN hr hx0
  have hd1 : decide ((N : Int) < 1) = false := by simp; omega
  have hd2 : decide (N < 1) = false := by simp; omega
  have p0 : (0 < N) = True := eq_true h0
  have p1 : ((0 : Int) < (N : Int)) = True := eq_true (by omega)
  go_enter Tryd.func33, Tryd.ntmps33
  go_wp2
  clear hx
  go_loopg [3, 4] (N - 1) (fun kq v3 v4 W => ∃ m : Nat, v4 = .int .i64 (m : Int) ∧ v3 = .int .u8 (((l.take m).drop 1).foldl mx (rd l 0)) ∧ Aside0 (m + kq = N ∧ 1 ≤ m) ∧ Aside0 (W = w))
  case atStart => exact ⟨1, rfl, by simp [List.drop_take], ⟨by omega, by omega⟩, ⟨rfl⟩⟩
  case round =>
    obtain ⟨m, rfl, rfl, HM, HW⟩ := hrel
    obtain rfl := HW.out
    cases gk with
    | zero =>
      obtain rfl : m = N := by have := HM.out; omega
      have q1 : decide ((m : Int) < (m : Int)) = false := by simp
      have q2 : decide (m < m) = false := by simp
      go_wp2
      go_ret
      refine ⟨?_, rfl⟩
      rw [HN.out, List.take_length]
      show Ending.returned (Value.int .u8 (l.tail.foldl mx (rd l 0))) = _
      unfold maxI
      rw [List.drop_one]
    | succ k1 =>
      have hm : m < N := by have := HM.out; omega
      have hml : m < l.length := by have := HN.out; omega
      obtain ⟨ad2, eA, hc⟩ := Kd.at_int HR.out (m : Int) (by omega) (by omega)
      obtain rfl : ad = ad2 := by injection eA
      rw [Int.toNat_natCast] at hc
      have hq : decide ((m : Int) < (N : Int)) = true := by simp; omega
      have p2 : (0 ≤ (m : Int)) = True := eq_true (by omega)
      have p3 : ((m : Int) < (N : Int)) = True := eq_true (by omega)
      have HF := Aside0.mk (show ((l.take (m + 1)).drop 1).foldl mx (rd l 0) = mx (((l.take m).drop 1).foldl mx (rd l 0)) (rd l (m : Int)) by
        have h1 := HM.out.2
        have e : (l.take (m + 1)).drop 1 = (l.take m).drop 1 ++ [l[m]] := by
          rw [List.take_succ_eq_append_getElem hml, List.drop_append_of_le_length (by rw [List.length_take]; omega)]
        rw [e, List.foldl_append]
        have e2 : rd l (m : Int) = l[m] := by unfold rd; simp [List.getD_eq_getElem?_getD, hml]
        rw [e2]
        rfl)
      generalize hb : ((l.take m).drop 1).foldl mx (rd l 0) = b at *
      generalize rd l (m : Int) = y at *
      clear hb
      by_cases hb : b < y
      · have hmx : mx b y = y := if_pos hb
        go_wp2
        go_roundg k1
        case measure => omega
        case rel => exact ⟨m + 1, by simp, by rw [HF.out, hmx], ⟨by have := HM.out; omega⟩, ⟨rfl⟩⟩
      · have hmx : mx b y = b := if_neg hb
        go_wp2
        go_roundg k1
        case measure => omega
        case rel => exact ⟨m + 1, by simp, by rw [HF.out, hmx], ⟨by have := HM.out; omega⟩, ⟨rfl⟩⟩
def getI (l : List Int) : Int := wrap64 (mn (numI (tz l)) 4611686018427387904)
theorem get_some {l : List Int} (h : octs l = true) (h8 : l.length ≤ 8) : segment_get.f l = some (getI l) := by
  have h1 := tz_length l
  unfold segment_get.f octets_Get.f getI
  rw [if_pos ⟨h, by omega⟩, if_pos (by omega)]
  rfl
def open_step (b : List Int) (s : List S43 × Nat) (x : Nat) : List S43 × Nat :=
  (s.1 ++ [⟨getI ((b.drop (13 + 6 * x)).take 4), rd b ((13 + 6 * x + 4 : Nat) : Int), ((b.take 380).drop s.2).take (rd b ((13 + 6 * x + 5 : Nat) : Int)).toNat⟩], s.2 + (rd b ((13 + 6 * x + 5 : Nat) : Int)).toNat)
def openRest (b : List Int) (n : Nat) : List S43 × Nat := (List.range n).foldl (open_step b) ([], 13 + 6 * n)
def openBig (b : List Int) (n : Nat) : Bool := (List.range n).any fun x => decide (32 < rd b ((13 + 6 * x + 5 : Nat) : Int))
def openSeg2 (b : List Int) : Int × List S43 × Int :=
  if rd b 12 ≤ 8 then (if openBig b (rd b 12).toNat = true then (0, [], 9) else
    (if checkI (getI ((b.drop 4).take 8)) (openRest b (rd b 12).toNat).1 = 0 then (if maxI (0 :: (b.take 380).drop (openRest b (rd b 12).toNat).2) > 0 then (0, [], 23) else (getI ((b.drop 4).take 8), (openRest b (rd b 12).toNat).1, 0)) else (0, [], 9)))
    else (0, [], 9)
def openSeg (b : List Int) (sum : Int) (p : Bool) : Int × List S43 × Int :=
  if getI ((b.drop 380).take 4) = wrap64 sum then (if p = true then openSeg2 b else (0, [], 22)) else (0, [], 21)
def segment_Open.f (b : List Int) : Option (Int × List S43 × Int) := if octs b = true then (if b.length = 384 then ((crc_Sum.f (b.take 380)).bind fun s => (bytes_HasPrefix.f b [115, 101, 103, 49]).bind fun p => some (openSeg b s p)) else some (0, [], 3)) else none
theorem open_results {tmps : Array Value} {W : World} {x y e : Value} (B2 B3 : Nat) (h2 : tmps.getD 2 undef = .pointer (some ⟨B2, 0, none⟩)) (h3 : tmps.getD 3 undef = .pointer (some ⟨B3, 0, none⟩)) (hg2 : W.heap[B2]? = some (.cells #[x, y] 32 (0, 0))) (hg3 : W.heap[B3]? = some (.cells #[e] 27 (0, 0))) :
    (results Tryd.f13 tmps).run Tryd.prog W = .ok (.tuple #[.agg #[x, y], e]) W := by
  have h : Tryd.f13.results = #[.cell 2 32, .cell 3 27] := rfl
  have h2' : tmps[2]?.getD undef = .pointer (some ⟨B2, 0, none⟩) := by simpa using h2
  have h3' : tmps[3]?.getD undef = .pointer (some ⟨B3, 0, none⟩) := by simpa using h3
  have hc : W.cell? ⟨B3, 0, none⟩ = some e := by simp [World.cell?, hg3]
  have hl : (loadVar 27 ⟨B3, 0, none⟩).run Tryd.prog W = .ok e W := by
    simp [loadVar, isAgg, underlying, Tryd.underlying27, hc, Result.andThen]
  simp [results, h, h2', h3', asAddr, run_loadVar_row W B2 32 32 #[x, y] (0, 0) _ hg2 Tryd.underlying32 rfl (by kernel_rfl), hl]
theorem open_out0 {R : Ending → World → Prop} {a : Act} {W : World} {x y e : Value} (B2 B3 : Nat) (h2 : a.tmps.getD 2 undef = .pointer (some ⟨B2, 0, none⟩)) (h3 : a.tmps.getD 3 undef = .pointer (some ⟨B3, 0, none⟩)) (hd : a.defers = []) (hg2 : W.heap[B2]? = some (.cells #[x, y] 32 (0, 0))) (hg3 : W.heap[B3]? = some (.cells #[e] 27 (0, 0))) (hR : R (.returned (.tuple #[.agg #[x, y], e])) W) :
    bodyPostM Fence.wide 6 Tryd.prog Tryd.f13 R .ret a W := by
  show LeavesInM Fence.wide 6 Tryd.prog Tryd.f13 a.tmps R a.defers .returning W
  rw [hd]
  exact ⟨_, open_results B2 B3 h2 h3 hg2 hg3, hR⟩
set_option maxHeartbeats 8000000 in
set_option maxRecDepth 100000 in
theorem open_len (A : Option Addr) (c : Nat) (b : List Int) (w : World) (h : ¬ b.length = 384) :
    Calls Tryd.prog 13 #[.slice A b.length c] w fun e w' => e = .returned (.tuple #[.agg #[.int .i64 0, .slice none 0 0], .int .i64 3]) ∧ Below w.heap.size w w' := by
  obtain ⟨N, hN⟩ : ∃ N, N = b.length := ⟨_, rfl⟩
  rw [← hN] at h ⊢
  clear hN
  have h1 : ((N : Int) != 384) = true := by simp; omega
  have h2 : (N != 384) = true := by simp; omega
  have h3 : ((N : Int) == 384) = false := by simp; omega
  clear h
  refine (callsIn_wide (n := 6)).1 ?_
  refine callsIn_of_wp_marks Tryd.func13 rfl trivial ?_ rfl
  simp only [Tryd.ntmps13, List.size_toArray, List.length_cons, List.length_nil, Nat.reduceAdd, Nat.reduceSub, Array.replicate_succ, Array.replicate_zero, List.push_toArray, List.append_toArray, List.nil_append, List.cons_append]
  refine wpIn_wide.2 ?_
  go_wp2
  refine open_out0 w.heap.size (w.heap.size + 1) rfl rfl rfl ?_ ?_ ⟨rfl, ?_⟩
  · rw [Below.heap_alloc _ _ _ (by simp)]
    exact heap_alloc_new w _
  · have h := heap_alloc_new (w.alloc (.cells #[.int .i64 0, .slice none 0 0] 32)) (.cells #[.int .i64 3] 27)
    rw [show (w.alloc (.cells #[.int .i64 0, .slice none 0 0] 32)).heap.size = w.heap.size + 1 by simp] at h
    exact h
  · exact ((Below.refl _ _).alloc (Nat.le_refl _) _).alloc (by simp) _
theorem seg_C {w : World} {a0 : Addr} {b : List Int} (h : Kd.C (Kd.int .u8) w (some a0) b.length b) (lo n : Nat) (h1 : lo + n ≤ b.length) : Kd.C (Kd.int .u8) w (some (a0.add lo)) n ((b.drop lo).take n) := by
  have h2 := Kd.C_drop (c := b.length + 1) h (m := lo) (by omega) (by omega)
  rw [if_neg (by omega)] at h2
  have h3 := Kd.C_take h2 (m := n) (by rw [List.length_drop]; omega)
  have hl : ((b.drop lo).take n).length = n := by rw [List.length_take, List.length_drop]; omega
  rw [hl] at h3
  have e : lo * (Kd.int .u8).sz = lo := Nat.mul_one lo
  simp only [Option.map_some] at h3
  rw [e] at h3
  exact h3
theorem seg_len (b : List Int) (lo n : Nat) (h1 : lo + n ≤ b.length) : ((b.drop lo).take n).length = n := by rw [List.length_take, List.length_drop]; omega
/-- The two result variables, as they stand at the start. -/
def OpenRes (B : Nat) (W : World) : Prop := W.heap[B]? = some (.cells #[.int .i64 0, .slice none 0 0] 32 (0, 0)) ∧ W.heap[B + 1]? = some (.cells #[.int .i64 0] 27 (0, 0))
theorem OpenRes.below {B : Nat} {W W1 : World} (h : OpenRes B W) (hb : Below W.heap.size W W1) : OpenRes B W1 := by
  have h1 : B + 1 < W.heap.size := by
    have := h.2
    rcases Nat.lt_or_ge (B + 1) W.heap.size with h | h
    · exact h
    · rw [Array.getElem?_eq_none h] at this; cases this
  exact ⟨(hb.block _ (by omega)).trans h.1, (hb.block _ h1).trans h.2⟩
theorem OpenRes.lt {B : Nat} {W : World} (h : OpenRes B W) : B + 1 < W.heap.size := by
  have := h.2
  rcases Nat.lt_or_ge (B + 1) W.heap.size with h | h
  · exact h
  · rw [Array.getElem?_eq_none h] at this; cases this
theorem OpenRes.facts {B : Nat} {W : World} (h : OpenRes B W) : W.cell? ⟨B, 0, none⟩ = some (.int .i64 0) ∧ W.cell? ⟨B, 1, none⟩ = some (.slice none 0 0) ∧ W.cell? ⟨B + 1, 0, none⟩ = some (.int .i64 0) ∧ W.frozen? ⟨B, 0, none⟩ = false ∧ W.frozen? ⟨B, 1, none⟩ = false ∧ W.frozen? ⟨B + 1, 0, none⟩ = false :=
  ⟨blk_cell h.1 0, blk_cell h.1 1, blk_cell h.2 0, blk_frozen h.1 0, blk_frozen h.1 1, blk_frozen h.2 0⟩
/-- Behind the stores of an answer. -/
theorem OpenRes.store {B : Nat} {W : World} (h : OpenRes B W) (x y e : Value) :
    (((W.setCell ⟨B, 0, none⟩ x).setCell ⟨B, 1, none⟩ y).setCell ⟨B + 1, 0, none⟩ e).heap[B]? = some (.cells #[x, y] 32 (0, 0)) ∧ (((W.setCell ⟨B, 0, none⟩ x).setCell ⟨B, 1, none⟩ y).setCell ⟨B + 1, 0, none⟩ e).heap[B + 1]? = some (.cells #[e] 27 (0, 0)) := by
  have h1 := heap_setCell_same W B 0 _ _ x h.1
  have h2 := heap_setCell_same (W.setCell ⟨B, 0, none⟩ x) B 1 _ _ y h1
  have h3 : ((W.setCell ⟨B, 0, none⟩ x).setCell ⟨B, 1, none⟩ y).heap[B + 1]? = _ := (Below.heap_setCell _ _ _ _ (by simp)).trans ((Below.heap_setCell _ _ _ _ (by simp)).trans h.2)
  exact ⟨(Below.heap_setCell _ _ _ _ (by simp)).trans h2, heap_setCell_same _ (B + 1) 0 _ _ e h3⟩
theorem OpenRes.drew {B : Nat} {W : World} (h : OpenRes B W) : OpenRes B W.drew := h
def open_T3 : Bool × List (List Nat × List Nat) := (true, [([], []), ([0], [0]), ([1], [1]), ([], []), ([3], [3]), ([4, 2], [4]), ([5], [5]), ([2, 6], [2, 6]), ([7, 5], [7])])
def open_B3 : List Nat := [0, 1, 3, 0, 8, 31, 63, 127, 255]
theorem open_tab3 : rtab .any (opsOf Tryd.f13 3) = open_T3 := by kernel_rfl
theorem open_bits3 : waitsOk open_T3.2 open_B3 = true := by kernel_rfl
def open_T11 : Bool × List (List Nat × List Nat) := (true, [([], []), ([], []), ([1], [1]), ([2], [2]), ([0, 3], [0, 3]), ([], []), ([], []), ([6], [6]), ([7], [7]), ([5, 8], [5, 8]), ([], []), ([4, 0, 1, 2, 3, 4, 10], [4]), ([10, 9, 11, 0, 1, 2, 3, 4, 5, 6, 7, 8, 9, 10, 11], [9, 10])])
def open_B11 : List Nat := [0, 0, 2, 6, 15, 0, 0, 64, 192, 480, 0, 1055, 4095]
theorem open_tab11 : rtab .any (opsOf Tryd.f13 11) = open_T11 := by kernel_rfl
theorem open_bits11 : waitsOk open_T11.2 open_B11 = true := by kernel_rfl
def open_T17 : Bool × List (List Nat × List Nat) := (true, [([], []), ([0], [0]), ([], []), ([2], [2]), ([3], [3]), ([], []), ([5], [5]), ([6], [6]), ([7], [7]), ([], []), ([], []), ([9, 10], [9, 10]), ([11, 4], [11]), ([4, 8, 12], [4, 8, 12]), ([13], [13]), ([1, 14, 12], [1, 14]), ([0, 1, 2, 3, 4, 5, 6, 7, 8, 9, 10, 11, 12, 13, 14, 15], []), ([16, 15, 15, 0, 1, 2, 3, 4, 5, 6, 7, 8, 9, 10, 11, 12, 13, 14, 15], [15, 16])])
def open_B17 : List Nat := [0, 1, 0, 4, 12, 0, 32, 96, 224, 0, 0, 1536, 3612, 8188, 16380, 32767, 65535, 131071]
theorem open_tab17 : rtab .any (opsOf Tryd.f13 17) = open_T17 := by kernel_rfl
theorem open_bits17 : waitsOk open_T17.2 open_B17 = true := by kernel_rfl
/-- The post, but nothing at a panic. -/
def NoP (Q : Exit → Act → World → Prop) : Exit → Act → World → Prop
  | .panic _, _, _ => False
  | e, a, w => Q e a w
theorem NoP.ret {Q : Exit → Act → World → Prop} {a : Act} {w : World} (h : Q .ret a w) : NoP Q .ret a w := h
theorem NoP.imp {Q : Exit → Act → World → Prop} : ∀ (e : Exit) (a : Act) (w : World), NoP Q e a w → Q e a w := fun e a w h => by
  cases e <;> first | exact h | exact (h : False).elim
theorem octs_sub {l m : List Int} (h : octs l = true) (hm : ∀ x ∈ m, x ∈ l) : octs m = true := List.all_eq_true.2 (fun x hx => List.all_eq_true.1 h x (hm x hx))
theorem seg_octs {b : List Int} (h : octs b = true) (lo n : Nat) : octs ((b.drop lo).take n) = true := octs_sub h (fun x hx => List.mem_of_mem_drop (List.mem_of_mem_take hx))
theorem get_at {w W : World} {a0 : Addr} {b : List Int} (hB : Below w.heap.size w W) (h : Kd.C (Kd.int .u8) w (some a0) b.length b) (h384 : b.length = 384) (ho : octs b = true) (lo n cc : Nat) (h1 : lo + n ≤ 384) (h8 : n ≤ 8) (hcc : n ≤ cc) :
    Calls Tryd.prog 29 #[.slice (some (a0.add lo)) n cc] W fun e w' => e = .returned (.int .i64 (getI ((b.drop lo).take n))) ∧ Below W.heap.size W w' := by
  have hl := seg_len b lo n (by omega)
  have hC := seg_C h lo n (by omega)
  have hg := get_some (seg_octs ho lo n) (by omega)
  generalize (b.drop lo).take n = l at *
  subst hl
  exact segment_get.calls _ _ l _ _ (Kd.C_below hC hB) (by omega) hg
theorem sum_at {w W : World} {a0 : Addr} {b : List Int} {s : Int} (hB : Below w.heap.size w W) (h : Kd.C (Kd.int .u8) w (some a0) b.length b) (h384 : b.length = 384) (hs : crc_Sum.f (b.take 380) = some s) (cc : Nat) (hcc : 380 ≤ cc) :
    Calls Tryd.prog 27 #[.slice (some a0) 380 cc] W fun e w' => e = .returned (.int .u32 s) ∧ Below W.heap.size W w' := by
  have hl : (b.take 380).length = 380 := by rw [List.length_take]; omega
  have hC := Kd.C_take h (m := 380) (by omega)
  generalize b.take 380 = l at *
  rw [hl] at hC
  have := crc_Sum.calls (some a0) cc l s W (by rw [hl]; exact Kd.C_below hC hB) (by omega) hs
  rwa [hl] at this
theorem open_byte {b : List Int} (h : octs b = true) (h384 : b.length = 384) (i : Nat) (hi : i < 384) : 0 ≤ rd b (i : Int) ∧ rd b (i : Int) ≤ 255 := by
  have hl : i < b.length := by omega
  have e : rd b (i : Int) = b[i] := by unfold rd; simp [List.getD_eq_getElem?_getD, hl]
  rw [e]
  exact octs_at h (List.getElem_mem hl)
theorem open_cut {a0 : Addr} {c : Nat} (hc : 384 ≤ c) (lo hi n : Nat) (h0 : 0 < lo ∧ lo < 384) (h1 : lo ≤ hi) (h2 : hi ≤ 384) (h3 : n = hi - lo) (W : World) :
    (Instr.slice 25 (.slice (some a0) 384 c) (some (.int .i64 (lo : Int))) (some (.int .i64 (hi : Int))) none).run Tryd.prog W = .ok (.slice (some ⟨a0.block, a0.off + lo, none⟩) n (c - lo)) W := by
  obtain ⟨i0, hi0, hz0, hs0, _⟩ := info_parts info5
  have := cut_mid (P := Tryd.prog) 25 5 .i64 .i64 Tryd.underlying25 hi0 1 hs0 (some a0) 384 c lo hi (by omega) (by omega) (by omega) (by omega) W
  rw [Int.toNat_natCast, Int.toNat_natCast, if_neg (by omega), ← h3] at this
  rw [this]
  simp only [Option.map_some, Addr.add, Nat.mul_one]
  rw [if_neg (by omega)]
theorem prefix_at {w W : World} {a0 : Addr} {b : List Int} {p : Bool} {A : Option Addr} (hB : Below w.heap.size w W) (h : Kd.C (Kd.int .u8) w (some a0) b.length b) (h384 : b.length = 384) (hp : bytes_HasPrefix.f b [115, 101, 103, 49] = some p) (cc : Nat) (hcc : 384 ≤ cc) (hm : Kd.C (Kd.int .u8) W A 4 [115, 101, 103, 49]) :
    Calls Tryd.prog 30 #[.slice (some a0) 384 cc, .slice A 4 4] W fun e w' => e = .returned (.bool p) ∧ Drawn0 W w' := by
  have := bytes_HasPrefix.calls (some a0) cc b A 4 [115, 101, 103, 49] p W (Kd.C_below h hB) (by omega) hm (Nat.le_refl _) hp
  rw [h384] at this
  exact this
theorem four_boxes (w : World) (o1 o2 o3 o4 : Obj) : ((((w.alloc o1).alloc o2).alloc o3).alloc o4).drew.heap.size = w.heap.size + 4 ∧ ((((w.alloc o1).alloc o2).alloc o3).alloc o4).drew.heap[w.heap.size]? = some o1 ∧ ((((w.alloc o1).alloc o2).alloc o3).alloc o4).drew.heap[w.heap.size + 1]? = some o2 ∧ ((((w.alloc o1).alloc o2).alloc o3).alloc o4).drew.heap[w.heap.size + 2]? = some o3 ∧ ((((w.alloc o1).alloc o2).alloc o3).alloc o4).drew.heap[w.heap.size + 3]? = some o4 := by
  have a1 := heap_alloc_new w o1
  have a2 := heap_alloc_new (w.alloc o1) o2
  have a3 := heap_alloc_new ((w.alloc o1).alloc o2) o3
  have a4 := heap_alloc_new (((w.alloc o1).alloc o2).alloc o3) o4
  rw [show (w.alloc o1).heap.size = w.heap.size + 1 by simp] at a2
  rw [show ((w.alloc o1).alloc o2).heap.size = w.heap.size + 2 by simp] at a3
  rw [show (((w.alloc o1).alloc o2).alloc o3).heap.size = w.heap.size + 3 by simp] at a4
  refine ⟨by simp, ?_, ?_, ?_, a4⟩
  · exact (Below.heap_alloc _ _ _ (by simp <;> omega)).trans ((Below.heap_alloc _ _ _ (by simp <;> omega)).trans ((Below.heap_alloc _ _ _ (by simp <;> omega)).trans a1))
  · exact (Below.heap_alloc _ _ _ (by simp <;> omega)).trans ((Below.heap_alloc _ _ _ (by simp <;> omega)).trans a2)
  · exact (Below.heap_alloc _ _ _ (by simp <;> omega)).trans a3
theorem u8_cells {W : World} {base : Nat} {ok : Nat → Prop} {v : Value} {l : List Int} (h : (Kd.int .u8).R 5 W base ok v l) : ∀ k, v.ownBlock = some k → ok k ∧ ∃ o, W.heap[k]? = some o ∧ o.isCells = true := by
  intro k hk
  refine ⟨h.1 k hk, ?_⟩
  obtain ⟨_, inner, ho, _⟩ := h
  rcases ho.2 with ⟨rfl, _⟩ | ⟨g, cap, cur, rfl, _, hg, _⟩
  · cases hk
  · cases hk; exact ⟨_, hg, rfl⟩
theorem S_row_cells {W : World} {base : Nat} {ok : Nat → Prop} {v : Value} {xs : List S43} (h : Kd.S k43 43 W base ok v xs) : ∀ k, v.ownBlock = some k → ∃ o, W.heap[k]? = some o ∧ o.isCells = true := by
  intro k hk
  obtain ⟨f, _, inner, ho, _⟩ := h
  rcases ho.2 with ⟨rfl, _⟩ | ⟨g, cap, cur, rfl, _, hg, _⟩
  · cases hk
  · cases hk; exact ⟨_, hg, rfl⟩
/-- The blocks of a row of blocks hold cells. -/
theorem S_cells {W : World} {base : Nat} {ok : Nat → Prop} {v : Value} {xs : List S43} (h : Kd.S k43 43 W base ok v xs) : Kd.S k43 43 W base (fun k => ok k ∧ ∃ o, W.heap[k]? = some o ∧ o.isCells = true) v xs := by
  have hc := S_row_cells h
  obtain ⟨f, h0, inner, ho, hr⟩ := h
  refine ⟨f, fun k hk => ⟨h0 k hk, hc k hk⟩, inner, ho, hr.imp_ (fun p cs hm => ?_)⟩
  have hm' : k43.M W base (fun k => (ok k ∧ some k ≠ v.ownBlock) ∧ f k = p.2) p.1 cs := hm
  obtain ⟨v2, rfl, hR⟩ := k43_openM hm'
  have hk := u8_cells hR
  have h2 := k43_mkM W base (fun k => ((ok k ∧ ∃ o, W.heap[k]? = some o ∧ o.isCells = true) ∧ some k ≠ v.ownBlock) ∧ f k = p.2) p.1 (Kd.R_mono (Kd.R_tight rfl hR) (fun k hk' => by
    have h3 := hk k hk'.symm
    exact ⟨⟨⟨h3.1.1.1, h3.2⟩, h3.1.1.2⟩, h3.1.2⟩))
  exact h2
theorem S_grown {W W' : World} {base : Nat} {ok : Nat → Prop} {v : Value} {xs : List S43} {row : Option Nat} (h : Kd.S k43 43 W base ok v xs) (hg : W.grownBy W' row) (hr : ∀ r, row = some r → ∃ o : Obj, W.heap[r]? = some o ∧ o.isCells = false) : Kd.S k43 43 W' base ok v xs :=
  Kd.S_mono (Kd.S_step (S_cells h) (fun k hk hlt => by
    obtain ⟨_, o, ho, hc⟩ := hk
    exact grownBy_keeps_cells hg hr ho hc)) (fun _ hk => hk.1)
/-- What the loop keeps. -/
structure OpenAt (w : World) (b : List Int) (g o c B m : Nat) (sq : Int) (pre : List Nat) (W : World) : Prop where
  blk : ∃ v, W.heap[B]? = some (.cells #[.int .i64 sq, v] 32 (0, 0)) ∧ Kd.S k43 43 W (B + 4) (fun _ => True) v (pre.foldl (open_step b) ([], m)).1
  rest : W.heap[B + 1]? = some (.cells #[.slice (some ⟨g, o + (pre.foldl (open_step b) ([], m)).2, none⟩) (380 - (pre.foldl (open_step b) ([], m)).2) (c - (pre.foldl (open_step b) ([], m)).2)] 25 (0, 0))
  le : m ≤ (pre.foldl (open_step b) ([], m)).2 ∧ (pre.foldl (open_step b) ([], m)).2 ≤ m + 32 * pre.length
  res : OpenRes w.heap.size W
  small : ∀ x ∈ pre, rd b ((13 + 6 * x + 5 : Nat) : Int) ≤ 32
  size : B + 4 ≤ W.heap.size
theorem OpenAt.grown {w : World} {b : List Int} {g o c B m : Nat} {sq : Int} {pre : List Nat} {W W' : World} {row : Option Nat} (h : OpenAt w b g o c B m sq pre W) (hg : W.grownBy W' row) (hr : ∀ r, row = some r → ∃ o : Obj, W.heap[r]? = some o ∧ o.isCells = false) : OpenAt w b g o c B m sq pre W' := by
  obtain ⟨⟨v, h1, h2⟩, h3, h4, h5, h6, h7⟩ := h
  exact ⟨⟨v, (grownBy_keeps_cells hg hr h1 rfl).trans h1, S_grown h2 hg hr⟩, (grownBy_keeps_cells hg hr h3 rfl).trans h3, h4, ⟨(grownBy_keeps_cells hg hr h5.1 rfl).trans h5.1, (grownBy_keeps_cells hg hr h5.2 rfl).trans h5.2⟩, h6, Nat.le_trans h7 hg.size⟩
theorem grownBy_drew (W : World) : W.grownBy W.drew none := ⟨rfl, rfl, rfl, Nat.le_refl _, fun _ _ _ => rfl⟩
/-- What an answer in the loop leaves. -/
def OpenOut (w : World) (W : World) : Prop := W.heap[w.heap.size]? = some (.cells #[.int .i64 0, .slice none 0 0] 32 (0, 0)) ∧ W.heap[w.heap.size + 1]? = some (.cells #[.int .i64 9] 27 (0, 0))
theorem OpenOut.grown {w W W' : World} {row : Option Nat} (h : OpenOut w W) (hg : W.grownBy W' row) (hr : ∀ r, row = some r → ∃ o : Obj, W.heap[r]? = some o ∧ o.isCells = false) : OpenOut w W' :=
  ⟨(grownBy_keeps_cells hg hr h.1 rfl).trans h.1, (grownBy_keeps_cells hg hr h.2 rfl).trans h.2⟩
theorem clone_at {w W : World} {a0 : Addr} {b : List Int} (hB : Below w.heap.size w W) (h : Kd.C (Kd.int .u8) w (some a0) b.length b) (h384 : b.length = 384) (off k cc : Nat) (h0 : 0 < off) (h1 : off + k ≤ 380) (hcc : k ≤ cc) :
    Calls Tryd.prog 32 #[.slice (some ⟨a0.block, a0.off + off, none⟩) k cc] W fun e w' => ∃ v0_ : Value, e = .returned v0_ ∧ Kd.R (Kd.int .u8) 5 w' W.heap.size (fun _ => True) v0_ (((b.take 380).drop off).take k) ∧ Below W.heap.size W w' := by
  have e1 : ((b.take 380).drop off).take k = (b.drop off).take k := by
    rw [List.drop_take, List.take_take, Nat.min_eq_left (by omega)]
  have hl := seg_len b off k (by omega)
  have hC := seg_C h off k (by omega)
  rw [e1]
  have e2 : a0.add off = ⟨a0.block, a0.off + off, none⟩ := by simp [Addr.add]; omega
  rw [e2] at hC
  generalize (b.drop off).take k = l at *
  have := bytes_Clone.calls (some ⟨a0.block, a0.off + off, none⟩) cc l l W (by rw [hl]; exact Kd.C_below hC hB) (by omega) (by unfold bytes_Clone.f; rw [if_pos (by omega)])
  rwa [hl] at this
theorem get_at2 {w W : World} {a0 : Addr} {b : List Int} (hB : Below w.heap.size w W) (h : Kd.C (Kd.int .u8) w (some a0) b.length b) (h384 : b.length = 384) (ho : octs b = true) (x cc : Nat) (h1 : x < 8) (hcc : 4 ≤ cc) :
    Calls Tryd.prog 29 #[.slice (some ⟨a0.block, a0.off + 13 + 6 * x, none⟩) 4 cc] W fun e w' => e = .returned (.int .i64 (getI ((b.drop (13 + 6 * x)).take 4))) ∧ Below W.heap.size W w' := by
  have := get_at hB h h384 ho (13 + 6 * x) 4 cc (by omega) (by omega) hcc
  have e2 : a0.add (13 + 6 * x) = ⟨a0.block, a0.off + 13 + 6 * x, none⟩ := by
    unfold Addr.add
    rw [if_neg (by omega), Nat.add_assoc]
  rwa [e2] at this
theorem open_cell {w W : World} {a0 : Addr} {b : List Int} (hB : Below w.heap.size w W) (h : Kd.C (Kd.int .u8) w (some a0) b.length b) (h384 : b.length = 384) (j : Nat) (h0 : 0 < j) (hj : j < 384) : W.cell? ⟨a0.block, a0.off + j, none⟩ = some (.int .u8 (rd b (j : Int))) := by
  obtain ⟨ad, eA, hx⟩ := Kd.at_int h (j : Int) (by omega) (by omega)
  obtain rfl : a0 = ad := by injection eA
  rw [Int.toNat_natCast] at hx
  have e2 : a0.add j = ⟨a0.block, a0.off + j, none⟩ := by
    unfold Addr.add
    rw [if_neg (by omega)]
  rw [e2] at hx
  exact (hB.cell (World.block_lt_of_cell? w _ hx)).trans hx
theorem open_from (g off n c lo n' : Nat) (h1 : lo ≤ n) (h4 : lo < c) (h5 : n' = n - lo) (W : World) :
    (Instr.slice 25 (.slice (some ⟨g, off, none⟩) n c) (some (.int .i64 (lo : Int))) none none).run Tryd.prog W = .ok (.slice (some ⟨g, off + lo, none⟩) n' (c - lo)) W := by
  obtain ⟨i0, hi0, hz0, hs0, _⟩ := info_parts info5
  have := cut_from (P := Tryd.prog) 25 5 .i64 Tryd.underlying25 hi0 1 hs0 (some ⟨g, off, none⟩) n c lo (by omega) (by omega) W
  rw [Int.toNat_natCast, if_neg (by omega), ← h5] at this
  rw [this]
  simp only [Option.map_some, Addr.add, Nat.mul_one]
  split
  · rename_i h; subst h; rfl
  · rfl
theorem open_to (g off n c hi : Nat) (h2 : hi ≤ n) (h3 : n ≤ c) (W : World) :
    (Instr.slice 25 (.slice (some ⟨g, off, none⟩) n c) none (some (.int .i64 (hi : Int))) none).run Tryd.prog W = .ok (.slice (some ⟨g, off, none⟩) hi c) W := by
  obtain ⟨i0, hi0, hz0, hs0, _⟩ := info_parts info5
  exact cut_to (P := Tryd.prog) 25 5 .i64 Tryd.underlying25 hi0 (some ⟨g, off, none⟩) n c (hi : Int) (by omega) (by omega) h3 W
theorem wrap_small {x : Int} (h0 : 0 ≤ x) (h1 : x ≤ 255) : wrap64 x = x := by unfold wrap64; omega
theorem open_count (b : List Int) (m : Nat) (l : List Nat) : (l.foldl (open_step b) ([], m)).1.length = l.length := by
  suffices h : ∀ (l : List Nat) (s : List S43 × Nat), (l.foldl (open_step b) s).1.length = s.1.length + l.length by
    rw [h]; simp
  intro l
  induction l with
  | nil => intro s; simp
  | cons x r ih =>
    intro s
    rw [List.foldl_cons, ih]
    simp [open_step]
    omega
theorem keepsOthers_below {W W' : World} (hb : Below W.heap.size W W') : KeepsOthers W W' := ⟨hb.size, fun k o hk _ => (hb.block k (Array.getElem?_eq_some_iff.1 hk).1).trans hk⟩
theorem size_setCell' (W : World) (p : Addr) (v : Value) : (W.setCell p v).heap.size = W.heap.size := by simp [World.setCell]
theorem open_next {w W w11 w12 : World} {b : List Int} {g o c B m : Nat} {sq : Int} {vB v12 : Value} {xs ys : List S43} {off' : Nat} {preN : List Nat} (N0 : Nat)
    (H1 : W.heap[B]? = some (.cells #[.int .i64 sq, vB] 32 (0, 0))) (H3 : ∃ u, W.heap[B + 1]? = some (.cells #[u] 25 (0, 0))) (H5 : OpenRes w.heap.size W) (HBW : Below w.heap.size w W) (HK : Below W.heap.size W w11) (HG : w11.grownBy w12 vB.ownBlock) (H2 : Kd.S k43 43 W (B + 4) (fun _ => True) vB xs) (HB12 : Below (B + 4) W w12) (HO : Kd.S k43 43 w12 (B + 4) (fun _ => True) v12 ys) (h7 : B + 4 ≤ W.heap.size) (hw : w.heap.size + 2 ≤ B)
    (hf : preN.foldl (open_step b) ([], m) = (ys, off')) (hle : m ≤ off' ∧ off' ≤ m + 32 * preN.length) (hsm : ∀ x ∈ preN, rd b ((13 + 6 * x + 5 : Nat) : Int) ≤ 32) :
    KeepsFrom N0 W ((w12.setCell ⟨B, 1, none⟩ v12).setCell ⟨B + 1, 0, none⟩ (.slice (some ⟨g, o + off', none⟩) (380 - off') (c - off'))) ∧ ChunkK (B + 1 + 1) (B + 1 + 1 + 1) W ((w12.setCell ⟨B, 1, none⟩ v12).setCell ⟨B + 1, 0, none⟩ (.slice (some ⟨g, o + off', none⟩) (380 - off') (c - off'))) ∧
    OpenAt w b g o c B m sq preN ((w12.setCell ⟨B, 1, none⟩ v12).setCell ⟨B + 1, 0, none⟩ (.slice (some ⟨g, o + off', none⟩) (380 - off') (c - off'))) ∧ Below w.heap.size w ((w12.setCell ⟨B, 1, none⟩ v12).setCell ⟨B + 1, 0, none⟩ (.slice (some ⟨g, o + off', none⟩) (380 - off') (c - off'))) := by
  obtain ⟨u, H3⟩ := H3
  have hB1 := (HB12.block B (by omega)).trans H1
  have hR1 := (HB12.block (B + 1) (by omega)).trans H3
  have hblk : ∀ (x y : Value) (k : Nat), k ≠ B → k ≠ B + 1 → ((w12.setCell ⟨B, 1, none⟩ x).setCell ⟨B + 1, 0, none⟩ y).heap[k]? = w12.heap[k]? := fun x y k h1 h2 => (Below.heap_setCell _ _ _ _ (by simpa using h2)).trans (Below.heap_setCell _ _ _ _ (by simpa using h1))
  refine ⟨?_, ?_, ?_, ?_⟩
  · refine ((((keepsOthers_below HK).trans (KeepsOthers.of_grownBy HG (fun j ob hj hob => ?_))).trans (KeepsOthers.setCell _ _ _)).trans (KeepsOthers.setCell _ _ _)).from _
    obtain ⟨ob', h1, h2⟩ := S_row_cells (Kd.S_below (Kd.S_bound H2) HK) j hj
    rw [hob] at h1
    cases h1
    exact h2
  · exact ⟨World.cell?_of_block ((hblk _ _ _ (by simp <;> omega) (by simp <;> omega)).trans (HB12.block _ (by simp <;> omega))), World.cell?_of_block ((hblk _ _ _ (by simp <;> omega) (by simp <;> omega)).trans (HB12.block _ (by simp <;> omega)))⟩
  · refine ⟨⟨v12, ?_, ?_⟩, ?_, ?_, ?_, hsm, ?_⟩
    · exact (Below.heap_setCell _ _ _ _ (by simp)).trans (heap_setCell_same w12 B 1 _ _ v12 hB1)
    · rw [hf]
      refine Kd.S_mono (Kd.S_step (Kd.S_bound HO) (fun k hk _ => hblk _ _ k ?_ ?_)) (fun _ _ => trivial)
      · have := hk.2.1; omega
      · have := hk.2.1; omega
    · rw [hf]
      exact heap_setCell_same _ (B + 1) 0 _ _ _ ((Below.heap_setCell _ _ _ _ (by simp)).trans hR1)
    · rw [hf]; exact hle
    · exact ⟨(hblk _ _ _ (by omega) (by omega)).trans ((HB12.block _ (by omega)).trans H5.1), (hblk _ _ _ (by omega) (by omega)).trans ((HB12.block _ (by omega)).trans H5.2)⟩
    · rw [size_setCell', size_setCell']
      exact Nat.le_trans h7 HB12.size
  · exact ((HBW.trans (Below.mono HB12 (by omega))).setCell (by simp <;> omega) _).setCell (by simp <;> omega) _
theorem open_out1 {R : Ending → World → Prop} {a : Act} {W : World} {x y e : Value} {D : Nat} (B2 B3 : Nat) (h2 : a.tmps.getD 2 undef = .pointer (some ⟨B2, 0, none⟩)) (h3 : a.tmps.getD 3 undef = .pointer (some ⟨B3, 0, none⟩)) (hd : a.defers = [{ target := .collected D, args := #[] }]) (hK : W.heap[D]? = some (.deferred (some []))) (hD2 : B2 ≠ D) (hD3 : B3 ≠ D) (hg2 : W.heap[B2]? = some (.cells #[x, y] 32 (0, 0))) (hg3 : W.heap[B3]? = some (.cells #[e] 27 (0, 0))) (hR : R (.returned (.tuple #[.agg #[x, y], e])) (W.putObj D (.deferred none))) :
    bodyPostM Fence.wide 6 Tryd.prog Tryd.f13 R .ret a W := by
  show LeavesInM Fence.wide 6 Tryd.prog Tryd.f13 a.tmps R a.defers .returning W
  rw [hd]
  refine ⟨by simp, .inl ⟨D, _, rfl, run_takeDeferred hK, ?_⟩⟩
  exact ⟨_, open_results B2 B3 h2 h3 ((World.putObj_heap_other hD2).trans hg2) ((World.putObj_heap_other hD3).trans hg3), hR⟩
theorem range_big {b : List Int} {n : Nat} {l : List Nat} (hl : l = List.range n) (h : ∀ x ∈ l, rd b ((13 + 6 * x + 5 : Nat) : Int) ≤ 32) : openBig b n = false := by
  subst hl
  unfold openBig
  rw [List.any_eq_false]
  intro x hx
  have h1 := h x hx
  rw [decide_eq_true_eq]
  omega
theorem fin_S {W W' : World} {base lo : Nat} {v : Value} {xs : List S43} (h : Kd.S k43 43 W base (fun _ => True) v xs) (hlo : lo ≤ base) (hk : ∀ k o, base ≤ k → W.heap[k]? = some o → o.isCells = true → W'.heap[k]? = some o) : Kd.S k43 43 W' lo (fun _ => True) v xs := by
  have h1 := Kd.S_bound (S_cells h)
  refine Kd.S_mono (Kd.S_lower (Kd.S_step h1 (fun k hc _ => ?_)) hlo) (fun _ _ => trivial)
  obtain ⟨⟨_, o, ho, hcc⟩, hb, _⟩ := hc
  exact (hk k o hb ho hcc).trans ho.symm
theorem rest_grown {w W : World} {a0 : Addr} {b : List Int} (hB : Below w.heap.size w W) (h : Kd.C (Kd.int .u8) w (some a0) b.length b) (h384 : b.length = 384) (off c : Nat) (h0 : 0 < off) (h1 : off ≤ 317) :
    ∃ G w7, (∀ ty, (Builtin.append_ #[25, 25] ty #[.slice (some ⟨W.heap.size, 0, none⟩) 1 1, .slice (some ⟨a0.block, a0.off + off, none⟩) (380 - off) c]).run Tryd.prog (W.alloc (.cells #[.int .u8 0] 5)) = .ok (.slice (some ⟨W.heap.size + 1, 0, none⟩) (1 + (380 - off)) G) w7) ∧ Kd.C (Kd.int .u8) w7 (some ⟨W.heap.size + 1, 0, none⟩) (1 + (380 - off)) (0 :: (b.take 380).drop off) ∧ Below W.heap.size W w7 := by
  have hl : ((b.take 380).drop off).length = 380 - off := by rw [List.length_drop, List.length_take]; omega
  have e1 : (b.take 380).drop off = (b.drop off).take (380 - off) := List.drop_take ..
  have hC := seg_C h off (380 - off) (by omega)
  have e2 : a0.add off = ⟨a0.block, a0.off + off, none⟩ := by
    unfold Addr.add
    rw [if_neg (by omega)]
  rw [e2, ← e1] at hC
  have hC2 := Kd.C_below (Kd.C_below hC hB) (below_alloc (Below.refl _ _) (.cells #[.int .u8 0] 5))
  obtain ⟨a, ea, hcs⟩ := C_cells hC2 (by omega)
  obtain rfl : (⟨a0.block, a0.off + off, none⟩ : Addr) = a := by injection ea
  generalize (b.take 380).drop off = t at *
  have hz : ∀ j v, (([0] : List Int).map (Value.int .u8))[j]? = some v → (W.alloc (.cells #[.int .u8 0] 5)).cell? ((⟨W.heap.size, 0, none⟩ : Addr).add j) = some v := by
    intro j v hv
    match j, hv with
    | 0, hv => cases hv; simp [Addr.add]
  obtain ⟨G, w7, h2, h3, h4⟩ := append_grown (w := W.alloc (.cells #[.int .u8 0] 5)) (c := c) hz hcs (by omega) (by simp; omega) (Below.refl _ _)
  have hs : (W.alloc (.cells #[.int .u8 0] 5)).heap.size = W.heap.size + 1 := by simp
  rw [hs] at h2 h3 h4
  refine ⟨G, w7, fun ty => ?_, ?_, ?_⟩
  · have := h2 ty
    rw [hl] at this
    exact this
  · have := (Kd.R_reads' h3).2.2
    simp only [List.length_cons, List.length_nil, List.singleton_append, hl] at this
    rw [show 380 - off + 1 = 1 + (380 - off) by omega] at this
    exact this
  · exact (below_alloc (Below.refl _ _) (.cells #[.int .u8 0] 5)).trans (Below.mono h4 (by omega))
theorem open_fin {w Wn : World} {D : Nat} (HR : OpenRes w.heap.size Wn) (hK : Wn.heap[D]? = some (.deferred (some []))) (hB : Below w.heap.size w Wn) (hD : w.heap.size + 2 ≤ D) (x y e : Value) :
    (((Wn.setCell ⟨w.heap.size, 0, none⟩ x).setCell ⟨w.heap.size, 1, none⟩ y).setCell ⟨w.heap.size + 1, 0, none⟩ e).heap[D]? = some (.deferred (some [])) ∧
    Below w.heap.size w ((((Wn.setCell ⟨w.heap.size, 0, none⟩ x).setCell ⟨w.heap.size, 1, none⟩ y).setCell ⟨w.heap.size + 1, 0, none⟩ e).putObj D (.deferred none)) ∧
    ∀ k o, w.heap.size + 2 ≤ k → Wn.heap[k]? = some o → o.isCells = true → ((((Wn.setCell ⟨w.heap.size, 0, none⟩ x).setCell ⟨w.heap.size, 1, none⟩ y).setCell ⟨w.heap.size + 1, 0, none⟩ e).putObj D (.deferred none)).heap[k]? = some o := by
  have hblk : ∀ k, w.heap.size + 2 ≤ k → (((Wn.setCell ⟨w.heap.size, 0, none⟩ x).setCell ⟨w.heap.size, 1, none⟩ y).setCell ⟨w.heap.size + 1, 0, none⟩ e).heap[k]? = Wn.heap[k]? := fun k hk => (Below.heap_setCell _ _ _ _ (by simp <;> omega)).trans ((Below.heap_setCell _ _ _ _ (by simp <;> omega)).trans (Below.heap_setCell _ _ _ _ (by simp <;> omega)))
  have hK2 := (hblk D hD).trans hK
  refine ⟨hK2, ?_, fun k o hk ho hc => ?_⟩
  · exact (((hB.setCell (p := ⟨w.heap.size, 0, none⟩) (Nat.le_refl _) x).setCell (p := ⟨w.heap.size, 1, none⟩) (Nat.le_refl _) y).setCell (p := ⟨w.heap.size + 1, 0, none⟩) (Nat.le_succ _) e).trans (belowK_b (w := w) (Nat.le_refl _) _ D _ _ (by omega) hK2 rfl rfl)
  · refine (World.putObj_heap_other (fun h_ => ?_)).trans ((hblk k hk).trans ho)
    subst h_
    rw [hK] at ho
    cases ho
    cases hc
theorem max_at {W : World} {g off G : Nat} {t : List Int} (hC : Kd.C (Kd.int .u8) W (some ⟨g, 0, none⟩) (1 + (380 - off)) (0 :: t)) (h : off ≤ 317) :
    Calls Tryd.prog 33 #[.slice (some ⟨g, 0, none⟩) (1 + (380 - off)) G] W fun e w' => e = .returned (.int .u8 (maxI (0 :: t))) ∧ w' = W := by
  have hl : (0 :: t).length = 1 + (380 - off) := Kd.C_len hC
  generalize (0 :: t) = l at *
  rw [← hl] at hC ⊢
  exact max_calls _ G l W hC (by omega) (by omega)
section
open Go.Shelf
attribute [local go_sem] Oper.semAt_some
theorem F_wide_n (n : Nat) {P : Program} {c : Code} {Q : Exit → Act → World → Prop} {a : Act} {w : World} (h : c.wpIn Fence.wide n P Q a w) : c.wpIn Fence.wide n P Q a w := h
set_option maxHeartbeats 8000000 in
set_option maxRecDepth 100000 in
theorem open_main (A : Option Addr) (c : Nat) (b : List Int) (s : Int) (p : Bool) (w : World) (hr0 : Kd.C (Kd.int .u8) w A b.length b) (hc0 : b.length ≤ c) (h384 : b.length = 384) (ho : octs b = true) (hs : crc_Sum.f (b.take 380) = some s) (hp : bytes_HasPrefix.f b [115, 101, 103, 49] = some p) (v : Int × List S43 × Int) (hv : openSeg b s p = v) :
    Calls Tryd.prog 13 #[.slice A 384 c] w fun e w' => ∃ v1, e = .returned (.tuple #[.agg #[.int .i64 v.1, v1], .int .i64 v.2.2]) ∧ Kd.S k43 43 w' w.heap.size (fun _ => True) v1 v.2.1 ∧ Below w.heap.size w w' := by
  obtain ⟨a0, rfl, _⟩ := Kd.at_int hr0 0 (by omega) (by omega)
  obtain ⟨i0, hi0, hz0, hs0, _⟩ := info_parts info5
  have k1 : ∀ W : World, (Instr.slice 25 (.slice (some a0) 384 c) (some (.int .i64 (380 : Int))) none none).run Tryd.prog W = .ok (.slice (some (a0.add 380)) 4 (c - 380)) W := fun W => by
    have := cut_from (P := Tryd.prog) 25 5 .i64 Tryd.underlying25 hi0 1 hs0 (some a0) 384 c 380 (by omega) (by omega) W
    rw [if_neg (by omega)] at this
    exact this
  have k2 : ∀ W : World, (Instr.slice 25 (.slice (some a0) 384 c) none (some (.int .i64 (380 : Int))) none).run Tryd.prog W = .ok (.slice (some a0) 380 c) W := fun W => cut_to (P := Tryd.prog) 25 5 .i64 Tryd.underlying25 hi0 (some a0) 384 c 380 (by omega) (by omega) (by omega) W
  have k3 : ∀ W : World, (Instr.slice 25 (.slice (some a0) 384 c) (some (.int .i64 (4 : Int))) (some (.int .i64 (12 : Int))) none).run Tryd.prog W = .ok (.slice (some (a0.add 4)) 8 (c - 4)) W := fun W => by
    have := cut_mid (P := Tryd.prog) 25 5 .i64 .i64 Tryd.underlying25 hi0 1 hs0 (some a0) 384 c 4 12 (by omega) (by omega) (by omega) (by omega) W
    rw [if_neg (by omega)] at this
    exact this
  have H0 := Aside0.mk hr0
  have H384 := Aside0.mk h384
  have HOC := Aside0.mk ho
  have HSUM := Aside0.mk hs
  have HPRE := Aside0.mk hp
  have HV := Aside0.mk hv
  clear hv
  have hcc : 384 ≤ c := by omega
  have HRES := Aside0.mk (show OpenRes w.heap.size ((w.alloc (.cells #[.int .i64 0, .slice none 0 0] 32)).alloc (.cells #[.int .i64 0] 27)) from ⟨by
      rw [Below.heap_alloc _ _ _ (by simp)]
      exact heap_alloc_new w _, by
      have h := heap_alloc_new (w.alloc (.cells #[.int .i64 0, .slice none 0 0] 32)) (.cells #[.int .i64 0] 27)
      rw [show (w.alloc (.cells #[.int .i64 0, .slice none 0 0] 32)).heap.size = w.heap.size + 1 by simp] at h
      exact h⟩)
  have HB := Aside0.mk (((Below.refl w.heap.size w).alloc (Nat.le_refl _) (.cells #[.int .i64 0, .slice none 0 0] 32)).alloc (by simp) (.cells #[.int .i64 0] 27))
  clear hr0 hs hp ho h384 hc0 hi0 hz0 hs0
  refine (callsIn_wide (n := 6)).1 ?_
  refine callsIn_of_wp_marks Tryd.func13 rfl trivial ?_ rfl
  simp only [Tryd.ntmps13, List.size_toArray, List.length_cons, List.length_nil, Nat.reduceAdd, Nat.reduceSub, Array.replicate_succ, Array.replicate_zero, List.push_toArray, List.append_toArray, List.nil_append, List.cons_append]
  refine wpIn_wide.2 ?_
  refine Code.wp_mono NoP.imp ?_
  go_wp2_with fail
  refine start_ (n := 9) (S := fun _ => True) (ds := []) #[false, false, false, false, false, false, false, false, false] (by kernel_rfl) rfl rfl trivial (fun hHeld => ?_); refine with_tabW open_tab3 open_bits3 (fun HT_ HW_ => ?_)
  refine pure_ (i := 0) (N := some 17) (v := ?_) (a' := ?_) #[true, false, false, false, false, false, false, false, false] rfl rfl (any_of HT_.out (by kernel_rfl)) (fun _ _ _ h => h) (Or.inl ⟨by rfl, ?_⟩) ?_ ?_
  rotate_left
  · intro w'
    go_simp
    with_reducible rfl
  rotate_left
  · simp only [Act.put, List.setIfInBounds_toArray, List.set_cons_zero, List.set_cons_succ, i64_w, i32_w]
    rfl
  refine pure_ (i := 1) (N := some 18) (v := ?_) (a' := ?_) #[true, true, false, false, false, false, false, false, false] rfl rfl (any_of HT_.out (by kernel_rfl)) (fun _ _ _ h => h) (Or.inl ⟨by rfl, ?_⟩) ?_ ?_
  rotate_left
  · intro w'
    go_simp
    with_reducible rfl
  rotate_left
  · simp only [Act.put, List.setIfInBounds_toArray, List.set_cons_zero, List.set_cons_succ, i64_w, i32_w]
    rfl
  refine pure_ (i := 3) (N := some 20) (v := ?_) (a' := ?_) #[true, true, false, true, false, false, false, false, false] rfl rfl (any_of HT_.out (by kernel_rfl)) (fun _ _ _ h => h) (Or.inl ⟨by rfl, ?_⟩) ?_ ?_
  rotate_left
  · intro w'
    go_simp
    with_reducible rfl
  rotate_left
  · simp only [Act.put, List.setIfInBounds_toArray, List.set_cons_zero, List.set_cons_succ, i64_w, i32_w]
    rfl
  refine pure_ (i := 4) (N := some 21) (v := ?_) (a' := ?_) #[true, true, false, true, true, false, false, false, false] rfl rfl (any_of HT_.out (by kernel_rfl)) (fun _ _ _ h => h) (Or.inl ⟨by rfl, ?_⟩) ?_ ?_
  rotate_left
  · intro w'
    go_simp
    with_reducible rfl
  rotate_left
  · simp only [Act.put, List.setIfInBounds_toArray, List.set_cons_zero, List.set_cons_succ, i64_w, i32_w]
    rfl
  refine one_ (i := 2) (N := some 19) #[true, true, true, true, true, false, false, false, false] rfl rfl (one_of HT_.out (by kernel_rfl)) (by decide) (fun K hK => ?_)
  refine goes_ Tryd.func29 (by kernel_rfl) rfl #[.slice (some (a0.add 380)) 4 (c - 380)] (by rfl) rfl rfl (by (try simp only [List.map_toArray, List.map_cons, List.map_nil]); first | done | rfl) ?_
  refine (get_at (below_drew1 HB.out) H0.out H384.out HOC.out 380 4 (c - 380) (by omega) (by omega) (by omega)).mono ?_
  rintro e_ w2 ⟨rfl, hb⟩
  refine ⟨_, rfl, ?_⟩
  have n0_ := Aside0.mk (HRES.out.drew.below hb)
  have n1_ := Aside0.mk (below_step (below_drew1 HB.out) hb)
  clear HRES HB hb
  have HRES := n0_
  have HB := n1_
  clear n0_ n1_
  refine hK.out _ _ trivial (fun hHeld => ?_)
  clear hK K
  refine norm_ (a' := ?_) ?_ ?_
  rotate_left
  · show Act.put _ (some 19) _ = _
    simp only [Act.put, List.setIfInBounds_toArray, List.set_cons_zero, List.set_cons_succ, i64_w, i32_w]
    rfl
  refine one_ (i := 5) (N := some 22) #[true, true, true, true, true, true, false, false, false] rfl rfl (one_of HT_.out (by kernel_rfl)) (by decide) (fun K hK => ?_)
  refine goes_ Tryd.func27 (by kernel_rfl) rfl #[.slice (some a0) 380 c] (by rfl) rfl rfl (by (try simp only [List.map_toArray, List.map_cons, List.map_nil]); first | done | rfl) ?_
  refine (sum_at HB.out H0.out H384.out HSUM.out c (by omega)).mono ?_
  rintro e_ w3 ⟨rfl, hb⟩
  refine ⟨_, rfl, ?_⟩
  have n0_ := Aside0.mk (HRES.out.below hb)
  have n1_ := Aside0.mk (below_step HB.out hb)
  clear HRES HB hb
  have HRES := n0_
  have HB := n1_
  clear n0_ n1_
  refine hK.out _ _ trivial (fun hHeld => ?_)
  clear hK K
  refine norm_ (a' := ?_) ?_ ?_
  rotate_left
  · show Act.put _ (some 22) _ = _
    simp only [Act.put, List.setIfInBounds_toArray, List.set_cons_zero, List.set_cons_succ, i64_w, i32_w]
    rfl
  refine pure_ (i := 6) (N := some 23) (v := ?_) (a' := ?_) #[true, true, true, true, true, true, true, false, false] rfl rfl (any_of HT_.out (by kernel_rfl)) (fun _ _ _ h => h) (Or.inl ⟨by rfl, ?_⟩) ?_ ?_
  rotate_left
  · intro w'
    go_simp
    with_reducible rfl
  rotate_left
  · simp only [Act.put, List.setIfInBounds_toArray, List.set_cons_zero, List.set_cons_succ, i64_w, i32_w]
    rfl
  refine pure_ (i := 7) (N := some 24) (v := ?_) (a' := ?_) #[true, true, true, true, true, true, true, true, false] rfl rfl (any_of HT_.out (by kernel_rfl)) (fun _ _ _ h => h) (Or.inl ⟨by rfl, ?_⟩) ?_ ?_
  rotate_left
  · intro w'
    go_simp
    with_reducible rfl
  rotate_left
  · simp only [Act.put, List.setIfInBounds_toArray, List.set_cons_zero, List.set_cons_succ, i64_w, i32_w]
    rfl
  refine pure_ (i := 8) (N := some 16) (v := ?_) (a' := ?_) #[true, true, true, true, true, true, true, true, true] rfl rfl (any_of HT_.out (by kernel_rfl)) (fun _ _ _ h => h) (Or.inl ⟨by rfl, ?_⟩) ?_ ?_
  rotate_left
  · intro w'
    go_simp
    with_reducible rfl
  rotate_left
  · simp only [Act.put, List.setIfInBounds_toArray, List.set_cons_zero, List.set_cons_succ, i64_w, i32_w]
    rfl
  refine done_ (done_of HT_.out (by kernel_rfl)) ?_
  have B4 := HRES.out.facts
  obtain ⟨f1, f2, f3, f4, f5, f6⟩ := B4
  by_cases c1 : getI ((b.drop 380).take 4) = wrap64 s
  case neg =>
    as_aux_lemma =>
      have c1b : (getI ((b.drop 380).take 4) != wrap64 s) = true := bne_iff_ne.mpr c1
      have hv : v = (0, [], 21) := by rw [← HV.out]; unfold openSeg; rw [if_neg c1]
      subst hv
      go_wp2
      refine NoP.ret ?_
      refine open_out0 (x := .int .i64 0) (y := .slice none 0 0) (e := .int .i64 21) w.heap.size (w.heap.size + 1) rfl rfl rfl ?_ ?_ ?_
      · exact (HRES.out.store _ _ _).1
      · exact (HRES.out.store _ _ _).2
      refine ⟨_, rfl, Kd.S_nil _ _ _ _ _, ?_⟩
      exact ((HB.out.setCell (Nat.le_refl _) _).setCell (Nat.le_refl _) _).setCell (by simp) _
  have c1b : (getI ((b.drop 380).take 4) != wrap64 s) = false := bne_eq_false_iff_eq.mpr c1
  have kc := fun (w : World) (C : Array Value) (n c : Nat) => Lib.run_convert_bytes_const (P := Tryd.prog) w 25 5 C n c Tryd.underlying25 Tryd.underlying5
  have hMK := Aside0.mk (const4_C w3)
  have HB4 := Aside0.mk (HB.out.alloc (below_size HB.out) (.cells #[.int .u8 115, .int .u8 101, .int .u8 103, .int .u8 49] 5 (4, 5)))
  have HR4 := Aside0.mk (HRES.out.below (below_alloc (Below.refl _ _) (.cells #[.int .u8 115, .int .u8 101, .int .u8 103, .int .u8 49] 5 (4, 5))))
  clear f1 f2 f3 f4 f5 f6
  cases p with
  | false =>
    as_aux_lemma =>
      have hv : v = (0, [], 22) := by rw [← HV.out]; unfold openSeg; rw [if_pos c1]; rfl
      subst hv
      obtain ⟨f1, f2, f3, f4, f5, f6⟩ := HR4.out.facts
      clear c1
      go_wp2_with (go_at_call 30; refine (prefix_at HB4.out H0.out H384.out HPRE.out c hcc hMK.out).mono ?_; rintro e_ w5 ⟨rfl, hdr⟩; obtain ⟨nd, rfl⟩ := hdr.out)
      refine NoP.ret ?_
      refine open_out0 (x := .int .i64 0) (y := .slice none 0 0) (e := .int .i64 22) w.heap.size (w.heap.size + 1) rfl rfl rfl ?_ ?_ ?_
      · exact (OpenRes.store (W := World.drewN _ nd) HR4.out _ _ _).1
      · exact (OpenRes.store (W := World.drewN _ nd) HR4.out _ _ _).2
      refine ⟨_, rfl, Kd.S_nil _ _ _ _ _, ?_⟩
      exact (((pw_below_drewN HB4.out nd).setCell (Nat.le_refl _) _).setCell (Nat.le_refl _) _).setCell (by simp) _
  | true =>
    have hv : openSeg b s true = openSeg2 b := by unfold openSeg; rw [if_pos c1]; rfl
    have HV2 := Aside0.mk (show openSeg2 b = v by rw [← hv]; exact HV.out)
    have HRES5 := HR4
    clear hv HV c1 HSUM HRES HB
    obtain ⟨ad12, eA, hx12⟩ := Kd.at_int H0.out 12 (by have := H384.out; omega) (by have := H384.out; omega)
    obtain rfl : a0 = ad12 := by injection eA
    have h12 : a0.add (12 : Int).toNat = ⟨a0.block, a0.off + 12, none⟩ := by simp [Addr.add]
    rw [h12] at hx12
    have hx12w := hx12
    have hn0 : 0 ≤ rd b 12 ∧ rd b 12 ≤ 255 := open_byte HOC.out H384.out 12 (by omega)
    obtain ⟨n, hn⟩ : ∃ n : Nat, rd b 12 = (n : Int) := ⟨(rd b 12).toNat, by omega⟩
    rw [hn] at hx12w hn0
    have HN := Aside0.mk hn
    have hw12 : wrap64 (n : Int) = (n : Int) := by unfold wrap64; omega
    clear hx12 h12 hn eA
    by_cases h8 : n ≤ 8
    case neg =>
      as_aux_lemma =>
        have hd8 : decide (8 < (n : Int)) = true := by simp; omega
        have hv : v = (0, [], 9) := by rw [← HV2.out]; unfold openSeg2; rw [if_neg (by rw [HN.out]; omega)]
        subst hv
        go_wp2_with (first
          | (go_at_call 30; refine (prefix_at HB4.out H0.out H384.out HPRE.out c hcc hMK.out).mono ?_; rintro e_ w5 ⟨rfl, hdr⟩; obtain ⟨nd, rfl⟩ := hdr.out)
          | (go_at_call 29; refine (get_at (pw_below_drewN HB4.out nd) H0.out H384.out HOC.out 4 8 (c - 4) (by omega) (by omega) (by omega)).mono ?_; rintro e_ w6 ⟨rfl, hb⟩; have HB6 := Aside0.mk ((below_step (pw_below_drewN HB4.out nd) hb).alloc (below_size (below_step (pw_below_drewN HB4.out nd) hb)) (.cells #[.int .i64 (getI ((b.drop 4).take 8)), .slice none 0 0] 32)); have HRES6 := Aside0.mk (OpenRes.below (OpenRes.below (W := World.drewN _ nd) HRES5.out hb) (below_alloc (Below.refl _ _) (.cells #[.int .i64 (getI ((b.drop 4).take 8)), .slice none 0 0] 32))); have hx6 := (HB6.out.cell (World.block_lt_of_cell? w _ hx12w)).trans hx12w; have HBW := Aside0.mk (show w.heap.size + 2 ≤ w6.heap.size from by have h1_ := HRES5.out.lt; have h2_ := hb.size; simp at h1_ h2_; omega); obtain ⟨f1, f2, f3, f4, f5, f6⟩ := HRES6.out.facts; clear hb))
        refine NoP.ret ?_
        refine open_out0 (x := .int .i64 0) (y := .slice none 0 0) (e := .int .i64 9) w.heap.size (w.heap.size + 1) rfl rfl rfl ?_ ?_ ?_
        · exact (HRES6.out.store _ _ _).1
        · exact (HRES6.out.store _ _ _).2
        refine ⟨_, rfl, Kd.S_nil _ _ _ _ _, ?_⟩
        exact ((HB6.out.setCell (Nat.le_refl _) _).setCell (Nat.le_refl _) _).setCell (by simp) _
    case pos =>
      have hd8 : decide (8 < (n : Int)) = false := by simp; omega
      obtain ⟨m, hm⟩ : ∃ m : Nat, m = 13 + 6 * n := ⟨_, rfl⟩
      have hwA : wrap64 (6 * (n : Int)) = 6 * (n : Int) := by unfold wrap64; omega
      have hwB : wrap64 (13 + 6 * (n : Int)) = (m : Int) := by unfold wrap64; omega
      have kh : ∀ W : World, (Instr.slice 25 (.slice (some a0) 384 c) (some (.int .i64 (13 : Int))) (some (.int .i64 (m : Int))) none).run Tryd.prog W = .ok (.slice (some ⟨a0.block, a0.off + 13, none⟩) (6 * n) (c - 13)) W := open_cut hcc 13 m (6 * n) (by omega) (by omega) (by omega) (by omega)
      have kr : ∀ W : World, (Instr.slice 25 (.slice (some a0) 384 c) (some (.int .i64 (m : Int))) (some (.int .i64 (380 : Int))) none).run Tryd.prog W = .ok (.slice (some ⟨a0.block, a0.off + m, none⟩) (380 - m) (c - m)) W := open_cut hcc m 380 (380 - m) (by omega) (by omega) (by omega) (by omega)
      have HM := Aside0.mk hm
      clear hm k1 k2 
      go_wp2_with (first
        | (go_at_call 30; refine (prefix_at HB4.out H0.out H384.out HPRE.out c hcc hMK.out).mono ?_; rintro e_ w5 ⟨rfl, hdr⟩; obtain ⟨nd, rfl⟩ := hdr.out)
        | (go_at_call 29; refine (get_at (pw_below_drewN HB4.out nd) H0.out H384.out HOC.out 4 8 (c - 4) (by omega) (by omega) (by omega)).mono ?_; rintro e_ w6 ⟨rfl, hb⟩; have HB6 := Aside0.mk ((below_step (pw_below_drewN HB4.out nd) hb).alloc (below_size (below_step (pw_below_drewN HB4.out nd) hb)) (.cells #[.int .i64 (getI ((b.drop 4).take 8)), .slice none 0 0] 32)); have HRES6 := Aside0.mk (OpenRes.below (OpenRes.below (W := World.drewN _ nd) HRES5.out hb) (below_alloc (Below.refl _ _) (.cells #[.int .i64 (getI ((b.drop 4).take 8)), .slice none 0 0] 32))); have hx6 := (HB6.out.cell (World.block_lt_of_cell? w _ hx12w)).trans hx12w; have HBW := Aside0.mk (show w.heap.size + 2 ≤ w6.heap.size from by have h1_ := HRES5.out.lt; have h2_ := hb.size; simp at h1_ h2_; omega); obtain ⟨f1, f2, f3, f4, f5, f6⟩ := HRES6.out.facts; clear hb))
      clear f1 f2 f3 f4 f5 f6 hx6 hx12w
      refine start_ (n := 13) (S := fun _ => True) (ds := []) #[false, false, false, false, false, false, false, false, false, false, false, false, false] (by kernel_rfl) rfl rfl trivial (fun hHeld => ?_); refine with_tabW open_tab11 open_bits11 (fun HT_ HW_ => ?_)
      refine pure_ (i := 0) (N := some 44) (v := ?_) (a' := ?_) #[true, false, false, false, false, false, false, false, false, false, false, false, false] rfl rfl (any_of HT_.out (by kernel_rfl)) (fun _ _ _ h => h) (Or.inl ⟨by rfl, ?_⟩) ?_ ?_
      rotate_left
      · intro w'
        go_simp
        with_reducible rfl
      rotate_left
      · simp only [Act.put, List.setIfInBounds_toArray, List.set_cons_zero, List.set_cons_succ, i64_w, i32_w]
        rfl
      refine pure_ (i := 1) (N := some 45) (v := ?_) (a' := ?_) #[true, true, false, false, false, false, false, false, false, false, false, false, false] rfl rfl (any_of HT_.out (by kernel_rfl)) (fun _ _ _ h => h) (Or.inl ⟨by rfl, ?_⟩) ?_ ?_
      rotate_left
      · intro w'
        go_simp
        with_reducible rfl
      rotate_left
      · simp only [Act.put, List.setIfInBounds_toArray, List.set_cons_zero, List.set_cons_succ, i64_w, i32_w]
        rfl
      refine pure_ (i := 2) (N := some 46) (v := ?_) (a' := ?_) #[true, true, true, false, false, false, false, false, false, false, false, false, false] rfl rfl (any_of HT_.out (by kernel_rfl)) (fun _ _ _ h => h) (Or.inl ⟨by rfl, ?_⟩) ?_ ?_
      rotate_left
      · intro w'
        go_simp
        with_reducible rfl
      rotate_left
      · simp only [Act.put, List.setIfInBounds_toArray, List.set_cons_zero, List.set_cons_succ, i64_w, i32_w]
        rfl
      refine pure_ (i := 3) (N := some 47) (v := ?_) (a' := ?_) #[true, true, true, true, false, false, false, false, false, false, false, false, false] rfl rfl (any_of HT_.out (by kernel_rfl)) (fun _ _ _ h => h) (Or.inl ⟨by rfl, ?_⟩) ?_ ?_
      rotate_left
      · intro w'
        go_simp
        with_reducible rfl
      rotate_left
      · simp only [Act.put, List.setIfInBounds_toArray, List.set_cons_zero, List.set_cons_succ, i64_w, i32_w]
        rfl
      refine pure_ (i := 4) (N := some 48) (v := ?_) (a' := ?_) #[true, true, true, true, true, false, false, false, false, false, false, false, false] rfl rfl (any_of HT_.out (by kernel_rfl)) (fun _ _ _ h => h) (Or.inl ⟨by rfl, ?_⟩) ?_ ?_
      rotate_left
      · intro w'
        go_simp
        with_reducible rfl
      rotate_left
      · simp only [Act.put, List.setIfInBounds_toArray, List.set_cons_zero, List.set_cons_succ, i64_w, i32_w]
        rfl
      refine pure_ (i := 5) (N := some 49) (v := ?_) (a' := ?_) #[true, true, true, true, true, true, false, false, false, false, false, false, false] rfl rfl (any_of HT_.out (by kernel_rfl)) (fun _ _ _ h => h) (Or.inl ⟨by rfl, ?_⟩) ?_ ?_
      rotate_left
      · intro w'
        go_simp
        with_reducible rfl
      rotate_left
      · simp only [Act.put, List.setIfInBounds_toArray, List.set_cons_zero, List.set_cons_succ, i64_w, i32_w]
        rfl
      refine pure_ (i := 6) (N := some 50) (v := ?_) (a' := ?_) #[true, true, true, true, true, true, true, false, false, false, false, false, false] rfl rfl (any_of HT_.out (by kernel_rfl)) (fun _ _ _ h => h) (Or.inl ⟨by rfl, ?_⟩) ?_ ?_
      rotate_left
      · intro w'
        go_simp
        with_reducible rfl
      rotate_left
      · simp only [Act.put, List.setIfInBounds_toArray, List.set_cons_zero, List.set_cons_succ, i64_w, i32_w]
        rfl
      refine pure_ (i := 7) (N := some 51) (v := ?_) (a' := ?_) #[true, true, true, true, true, true, true, true, false, false, false, false, false] rfl rfl (any_of HT_.out (by kernel_rfl)) (fun _ _ _ h => h) (Or.inl ⟨by rfl, ?_⟩) ?_ ?_
      rotate_left
      · intro w'
        go_simp
        with_reducible rfl
      rotate_left
      · simp only [Act.put, List.setIfInBounds_toArray, List.set_cons_zero, List.set_cons_succ, i64_w, i32_w]
        rfl
      refine pure_ (i := 8) (N := some 52) (v := ?_) (a' := ?_) #[true, true, true, true, true, true, true, true, true, false, false, false, false] rfl rfl (any_of HT_.out (by kernel_rfl)) (fun _ _ _ h => h) (Or.inl ⟨by rfl, ?_⟩) ?_ ?_
      rotate_left
      · intro w'
        go_simp
        with_reducible rfl
      rotate_left
      · simp only [Act.put, List.setIfInBounds_toArray, List.set_cons_zero, List.set_cons_succ, i64_w, i32_w]
        rfl
      refine pure_ (i := 9) (N := some 53) (v := ?_) (a' := ?_) #[true, true, true, true, true, true, true, true, true, true, false, false, false] rfl rfl (any_of HT_.out (by kernel_rfl)) (fun _ _ _ h => h) (Or.inl ⟨by rfl, ?_⟩) ?_ ?_
      rotate_left
      · intro w'
        go_simp
        with_reducible rfl
      rotate_left
      · simp only [Act.put, List.setIfInBounds_toArray, List.set_cons_zero, List.set_cons_succ, i64_w, i32_w]
        rfl
      refine one_ (i := 10) (N := some 7) #[true, true, true, true, true, true, true, true, true, true, true, false, false] rfl rfl (one_of HT_.out (by kernel_rfl)) (by decide) (fun K hK => ?_)
      refine value_ (w1 := ?_) (v := ?_) (by rfl) rfl ?_ ?_
      rotate_left 2
      · go_simp
        constructor
        · rfl
        · rfl
      refine hK.out _ _ trivial (fun hHeld => ?_)
      clear hK K
      refine norm_ (a' := ?_) ?_ ?_
      rotate_left
      · show Act.put _ (some 7) _ = _
        simp only [Act.put, List.setIfInBounds_toArray, List.set_cons_zero, List.set_cons_succ, i64_w, i32_w]
        rfl
      refine pure_ (i := 11) (N := some 6) (v := ?_) (a' := ?_) #[true, true, true, true, true, true, true, true, true, true, true, true, false] rfl rfl (any_of HT_.out (by kernel_rfl)) (fun _ _ _ h => h) (Or.inl ⟨by rfl, ?_⟩) ?_ ?_
      rotate_left
      · intro w'
        go_simp
        with_reducible rfl
      rotate_left
      · simp only [Act.put, List.setIfInBounds_toArray, List.set_cons_zero, List.set_cons_succ, i64_w, i32_w]
        rfl
      refine one_ (i := 12) (N := none) #[true, true, true, true, true, true, true, true, true, true, true, true, true] rfl rfl (one_of HT_.out (by kernel_rfl)) (by decide) (fun K hK => ?_)
      refine skip_ (w1 := ?_) (by rfl) rfl ?_ ?_
      rotate_left 1
      · go_simp
        rfl
      refine hK.out _ _ trivial (fun hHeld => ?_)
      clear hK K
      refine done_ (done_of HT_.out (by kernel_rfl)) ?_
      have HB7 := Aside0.mk (HB6.out.alloc (below_size HB6.out) (.cells #[.slice (some ⟨a0.block, a0.off + m, none⟩) (380 - m) (c - m)] 25))
      have HRES7 := Aside0.mk (HRES6.out.below (below_alloc (Below.refl _ _) (.cells #[.slice (some ⟨a0.block, a0.off + m, none⟩) (380 - m) (c - m)] 25)))
      go_wp2_with (go_at_call 31; refine (callsIn_wide.1 (chunk_in Fence.wide 5 trivial rfl _ _ _ _)).mono ?_; rintro e_ w7 ⟨rfl, rfl⟩)
      clear kc hMK hd8 hwA hwB kh kr HR4 HRES5 HRES6 HB4 HB6 HPRE hHeld hn0 hw12 k3 HT_ HW_
      obtain ⟨q1, q2, q3, q4, q5⟩ := four_boxes w6 (.cells #[.int .i64 (getI ((b.drop 4).take 8)), .slice none 0 0] 32) (.cells #[.slice (some ⟨a0.block, a0.off + m, none⟩) (380 - m) (c - m)] 25) (.cells #[.slice (some ⟨a0.block, a0.off + 13, none⟩) (6 * n) (c - 13)] 25) (.cells #[.int .i64 6] 3)
      have HB8 := Aside0.mk (below_drew1 ((HB7.out.alloc (below_size HB7.out) (.cells #[.slice (some ⟨a0.block, a0.off + 13, none⟩) (6 * n) (c - 13)] 25)).alloc (by rw [World.size_alloc]; exact Nat.le_succ_of_le (below_size HB7.out)) (.cells #[.int .i64 6] 3)))
      have HRES8 := Aside0.mk ((HRES7.out.below (below_alloc (below_alloc (Below.refl _ _) (.cells #[.slice (some ⟨a0.block, a0.off + 13, none⟩) (6 * n) (c - 13)] 25)) (.cells #[.int .i64 6] 3))).drew)
      obtain ⟨sq, hsq⟩ : ∃ sq, sq = getI ((b.drop 4).take 8) := ⟨_, rfl⟩
      rw [← hsq] at q1 q2 q3 q4 q5 HB8 HRES8 ⊢
      generalize hW0 : ((((w6.alloc (.cells #[.int .i64 sq, .slice none 0 0] 32)).alloc (.cells #[.slice (some ⟨a0.block, a0.off + m, none⟩) (380 - m) (c - m)] 25)).alloc (.cells #[.slice (some ⟨a0.block, a0.off + 13, none⟩) (6 * n) (c - 13)] 25)).alloc (.cells #[.int .i64 6] 3)).drew = W0 at *
      obtain ⟨B, hB⟩ : ∃ B, B = w6.heap.size := ⟨_, rfl⟩
      rw [← hB] at q1 q2 q3 q4 q5 HBW ⊢
      have HSQ := Aside0.mk hsq
      clear hsq hW0 hB HB7 HRES7
      have HWB := HBW
      refine wpIn_wide.1 (F_wide_n 6 ?_)
      refine wpIn_rangeFunc_ownG (α := Fin n) (w0 := W0) rfl (by decide) (gf := 49) (lb := #[.pointer (some ⟨B + 1 + 1, 0, none⟩), .pointer (some ⟨B + 1 + 1 + 1, 0, none⟩)]) rfl trivial (enters_of Tryd.func49 (by kernel_rfl) rfl)
        (encs := fun x => #[.slice (some ⟨a0.block, a0.off + 13 + 6 * x.val, none⟩) 6 6]) (Kp := ChunkK (B + 1 + 1) (B + 1 + 1 + 1)) (S := fun ys => ys.map (·.val) = List.range n) (Sp := fun _ => True) (N := n)
        ?seq (fun h k => h.trans k) ?kb (Below.refl _ _) (fun _ => rfl)
        (fun pre W => OpenAt w b a0.block a0.off c B m sq (pre.map (·.val)) W ∧ Below w.heap.size w W) (fun cc _ W => (cc = .ret ∧ openBig b n = true ∧ OpenOut w W) ∧ Below w.heap.size w W) ?own ?ownx ?h0
        (fun x => { tmps := #[Value.slice (some a0) 384 c, undef, Value.pointer (some { block := w.heap.size, off := 0 }), Value.pointer (some { block := w.heap.size + 1, off := 0 }), Value.pointer (some { block := B, off := 0 }), Value.int IntKind.i64 ↑n, Value.slice (some { block := a0.block, off := a0.off + 13 }) (6 * n) (c - 13), Value.pointer (some { block := B + 1, off := 0 }), (.slice (some ⟨a0.block, a0.off + 13 + 6 * x.val, none⟩) 6 6), undef, undef, Value.bool false, Value.slice (some a0) 384 c, Value.int IntKind.i64 384, Value.bool false, undef, Value.bool false, Value.slice (some a0) 384 c, Value.slice (some { block := a0.block, off := a0.off + 380 }) 4 (c - 380), Value.int IntKind.i64 (getI (List.take 4 (List.drop 380 b))), Value.slice (some a0) 384 c, Value.slice (some a0) 380 c, Value.int IntKind.u32 s, Value.int IntKind.i64 (wrap64 s), Value.bool false, undef, Value.bool false, Value.slice (some a0) 384 c, Value.slice (some { block := w3.heap.size, off := 0 }) 4 4, Value.slice (some { block := w3.heap.size, off := 0 }) 4 4, Value.bool true, Value.bool false, undef, Value.slice (some a0) 384 c, Value.slice (some { block := a0.block, off := a0.off + 4 }) 8 (c - 4), Value.int IntKind.i64 sq, Value.agg #[Value.int IntKind.i64 sq, Value.slice none 0 0], Value.slice (some a0) 384 c, Value.pointer (some { block := a0.block, off := a0.off + 12 }), Value.int IntKind.u8 ↑n, Value.int IntKind.i64 ↑n, Value.int IntKind.i64 ↑n, Value.bool false, undef, Value.slice (some a0) 384 c, Value.int IntKind.i64 ↑n, Value.int IntKind.i64 (6 * ↑n), Value.int IntKind.i64 ↑m, Value.slice (some { block := a0.block, off := a0.off + 13 }) (6 * n) (c - 13), Value.slice (some a0) 384 c, Value.int IntKind.i64 ↑n, Value.int IntKind.i64 (6 * ↑n), Value.int IntKind.i64 ↑m, Value.slice (some { block := a0.block, off := a0.off + m }) (380 - m) (c - m), Value.slice (some { block := a0.block, off := a0.off + 13 }) (6 * n) (c - 13), Value.func (Fn.func 49) #[] #[Value.pointer (some { block := B + 1 + 1, off := 0 }), Value.pointer (some { block := B + 1 + 1 + 1, off := 0 })], (.slice (some ⟨a0.block, a0.off + 13 + 6 * x.val, none⟩) 6 6), undef, undef, undef, undef, undef, undef, undef, undef, undef, undef, undef, undef, undef, undef, undef, undef, undef, undef, undef, undef, undef, undef, undef, undef, undef, undef, undef, undef, undef, undef, undef, undef, undef, undef, undef, undef, undef, undef, undef, undef], defers := [] }) ?assign ?body ?done ?stop
      case assign =>
        intro l x W K hK
        gi_wp2
        exact hK
      case kb =>
        intro W l o o' hl ho hoc _
        have hne : ∀ k, k < B + 4 → k ≠ l := fun k hk => by omega
        exact ⟨World.cell?_of_block (World.putObj_heap_other (hne _ (by simp))), World.cell?_of_block (World.putObj_heap_other (hne _ (by simp)))⟩
      case own =>
        exact OwnFrom.and (Own.from (fun s A A' row hs hg hr => hs.grown hg hr) _) (ownFrom_below (Nat.le_refl _) (by rw [q1]; have := HBW.out; omega))
      case ownx =>
        intro cc
        exact OwnFrom.and (Own.from (fun s A A' row hs hg hr => ⟨hs.1, hs.2.1, hs.2.2.grown hg hr⟩) _) (ownFrom_below (Nat.le_refl _) (by rw [q1]; have := HBW.out; omega))
      case h0 =>
        refine ⟨⟨⟨_, q2, Kd.S_nil _ _ _ _ _⟩, q3, ⟨Nat.le_refl _, by simp⟩, HRES8.out, (fun x hx => by cases hx), by omega⟩, HB8.out⟩
      case seq =>
        as_aux_lemma =>
          intro l J Jx W hW hJa hJxa hY hJ0
          have e1 : W.cell? ⟨B + 1 + 1, 0, none⟩ = some (.slice (some ⟨a0.block, a0.off + 13, none⟩) (6 * n) (c - 13)) := (hW.cell (p := ⟨B + 1 + 1, 0, none⟩) (by show B + 1 + 1 < _; rw [q1]; omega)).trans (blk_cell q4 0)
          have e2 : W.cell? ⟨B + 1 + 1 + 1, 0, none⟩ = some (.int .i64 6) := (hW.cell (p := ⟨B + 1 + 1 + 1, 0, none⟩) (by show B + 1 + 1 + 1 < _; rw [q1]; omega)).trans (blk_cell q5 0)
          refine (chunk1_in Fence.wide 5 trivial rfl (by decide) l (B + 1 + 1) (B + 1 + 1 + 1) a0.block (a0.off + 13) n (c - 13) h8 (by omega) (fun s W => ∃ ys : List (Fin n), ys.map (·.val) = s ∧ J ys W) (fun _ W => ∃ ys : List (Fin n), Jx ys W) ?_ ?_ W e1 e2 ⟨[], rfl, hJ0⟩).mono ?_
          · rintro s W1 ⟨ys, h1, h2⟩
            exact ⟨ys, h1, hJa _ _ _ _ h2 (grownBy_drew W1) (fun r e => by cases e)⟩
          · rintro s y W1 ⟨ys, rfl, hJ⟩ hlen hy
            refine (hY ys ⟨y, hy⟩ W1 hJ (by rw [List.length_map] at hlen; exact hlen)).mono ?_
            rintro e W2 (⟨rfl, h1, h2⟩ | ⟨rfl, h1⟩)
            · exact .inl ⟨rfl, ⟨ys ++ [⟨y, hy⟩], by simp, h1⟩, h2⟩
            · exact .inr ⟨rfl, _, h1⟩
          · rintro e W2 ⟨hv, ⟨_, rfl, ys, h1, h2⟩ | ⟨_, _, ys, h2⟩⟩
            · exact ⟨hv, .inl ⟨ys, h1, h2⟩⟩
            · exact ⟨hv, .inr ⟨ys, trivial, h2⟩⟩
      case stop =>
        as_aux_lemma =>
          rintro D cc pre W hD _ ⟨⟨rfl, hbig, hout⟩, hBw⟩ hK
          refine wpIn_ret ?_
          have hv : v = (0, [], 9) := by
            rw [← HV2.out]; unfold openSeg2
            rw [if_pos (by rw [HN.out]; omega), if_pos (by rw [HN.out, Int.toNat_natCast]; exact hbig)]
          subst hv
          refine NoP.ret ?_
          have hD2 := HBW.out
          have hD3 : w.heap.size + 4 ≤ D := by omega
          refine open_out1 (x := .int .i64 0) (y := .slice none 0 0) (e := .int .i64 9) w.heap.size (w.heap.size + 1) rfl rfl rfl hK (by omega) (by omega) hout.1 hout.2 ?_
          refine ⟨_, rfl, Kd.S_nil _ _ _ _ _, ?_⟩
          exact hBw.trans (belowK_b (w := w) (Nat.le_refl _) W D _ _ (by omega) hK rfl rfl)
      case done =>
        as_aux_lemma =>
          rintro D ys W hD hys ⟨⟨⟨vB, h1, h2⟩, h3, h4, h5, h6, h7⟩, hBw⟩ hK
          have hbig := range_big hys h6
          have HYS := Aside0.mk hys
          rw [hys] at h2 h3 h4
          have hrest : openRest b n = (List.range n).foldl (open_step b) ([], m) := by unfold openRest; rw [HM.out]
          rw [← hrest] at h2 h3 h4
          have hlen : ys.length = n := by have := congrArg List.length hys; simpa using this
          have hspec : openSeg2 b = if checkI sq (openRest b n).1 = 0 then (if maxI (0 :: (b.take 380).drop (openRest b n).2) > 0 then (0, [], 23) else (sq, (openRest b n).1, 0)) else (0, [], 9) := by
            unfold openSeg2
            rw [if_pos (by rw [HN.out]; omega), if_neg (by rw [HN.out, Int.toNat_natCast, hbig]; simp), HN.out, Int.toNat_natCast, ← HSQ.out]
          have hv := HV2.out.symm.trans hspec
          have hoff : 13 ≤ (openRest b n).2 ∧ (openRest b n).2 ≤ 317 := by
            have := HM.out
            simp only [List.length_range] at h4
            omega
          generalize openRest b n = st at *
          obtain ⟨xs, off⟩ := st
          simp only at h2 h3 hv hoff
          obtain ⟨DB, eB, rfl⟩ := Kd.S_slice h2
          have hcS0 := blk_cell h1 0
          have hcS1 := blk_cell h1 1
          have hcR := blk_cell h3 0
          have HS2 := Aside0.mk h2
          have HRES := Aside0.mk h5
          have HBW2 := Aside0.mk hBw
          have HK := Aside0.mk hK
          have HD := Aside0.mk hD
          have H7 := Aside0.mk h7
          have HOFF := Aside0.mk hoff
          have H3 := Aside0.mk h3
          have H1 := Aside0.mk h1
          have HVV := Aside0.mk hv
          have HD2 := Aside0.mk (show w.heap.size + 2 ≤ D from by have := HBW.out; have := HD.out; omega)
          have HDR := Aside0.mk (show w.heap.size ≠ D ∧ w.heap.size + 1 ≠ D from by have := HBW.out; have := HD.out; omega)
          have HDL := Aside0.mk (Array.getElem?_eq_some_iff.1 HK.out).1
          by_cases hck : checkI sq xs = 0
          case neg =>
            as_aux_lemma =>
              have hck9 : checkI sq xs = 9 := by
                unfold checkI at hck ⊢
                split at hck
                · exact absurd rfl hck
                · rename_i h_; rw [if_neg h_]
              rw [if_neg hck] at hv
              subst hv
              have HCK := Aside0.mk hck9
              clear hck hck9 HVV
              clear h2 h3 h1 h5 hBw hK hD h7 hoff hspec hrest hys hlen h4 h6 hbig
              go_wp2_with (go_at_call 23; refine (segment_Check.calls sq DB eB xs 9 _ (Kd.S_reads' HS2.out).2.2 (Kd.S_reads' HS2.out).2.1 (by show some (checkI sq xs) = _; rw [HCK.out])).mono ?_; rintro e_ w9 ⟨rfl, hb⟩; have HB9 := Aside0.mk hb; have HR9 := Aside0.mk (HRES.out.below hb); obtain ⟨f1, f2, f3, f4, f5, f6⟩ := HR9.out.facts; clear hb)
              refine NoP.ret ?_
              have hfin := open_fin HR9.out ((HB9.out.block D HDL.out).trans HK.out) (below_step HBW2.out HB9.out) HD2.out (.int .i64 0) (.slice none 0 0) (.int .i64 9)
              exact open_out1 (x := .int .i64 0) (y := .slice none 0 0) (e := .int .i64 9) w.heap.size (w.heap.size + 1) rfl rfl rfl hfin.1 HDR.out.1 HDR.out.2 (HR9.out.store _ _ _).1 (HR9.out.store _ _ _).2 ⟨_, rfl, Kd.S_nil _ _ _ _ _, hfin.2.1⟩
          case pos =>
            rw [if_pos hck] at hv
            have HCK := Aside0.mk hck
            clear hck HVV h2 h3 h1 h5 hBw hK hD h7 hspec hrest hys hlen h4 h6 hbig
            have HOFF2 := Aside0.mk hoff
            clear hoff
            by_cases hmx : maxI (0 :: (b.take 380).drop off) > 0
            case pos =>
              rw [if_pos hmx] at hv
              subst hv
              have hdm : decide (0 < maxI (0 :: (b.take 380).drop off)) = true := decide_eq_true hmx
              as_aux_lemma =>
                go_wp2_with (first
                  | (go_at_call 23; refine (segment_Check.calls sq DB eB xs 0 _ (Kd.S_reads' HS2.out).2.2 (Kd.S_reads' HS2.out).2.1 (by show some (checkI sq xs) = _; rw [HCK.out])).mono ?_; rintro e_ w9 ⟨rfl, hb⟩; have HB9 := Aside0.mk hb; obtain ⟨G, w11, hrz, hC11, hb11⟩ := rest_grown (below_step HBW2.out HB9.out) H0.out H384.out off (c - off) (Nat.lt_of_lt_of_le (by decide) HOFF2.out.1) HOFF2.out.2; have HB11 := Aside0.mk (HB9.out.trans (Below.mono hb11 HB9.out.size)); have HR11 := Aside0.mk (HRES.out.below HB11.out); have HC11 := Aside0.mk hC11; have HZ := Aside0.mk hrz; obtain ⟨f1, f2, f3, f4, f5, f6⟩ := HR11.out.facts; have hcR9 : (w9.alloc (.cells #[.int .u8 0] 5)).cell? ⟨B + 1, 0, none⟩ = _ := ((HB9.out.alloc HB9.out.size (.cells #[.int .u8 0] 5)).cell (World.block_lt_of_cell? W _ hcR)).trans hcR; have hcS011 := (HB11.out.cell (World.block_lt_of_cell? W _ hcS0)).trans hcS0; have hcS111 := (HB11.out.cell (World.block_lt_of_cell? W _ hcS1)).trans hcS1; clear hb hb11 hC11 hrz)
                  | (at_builtin; refine Lib.wpList_append_run _ rfl _ _ _ _ rfl _ _ rfl rfl _ _ (HZ.out _) ?_)
                  | (go_at_call 33; refine (max_at HC11.out HOFF2.out.2).mono ?_; rintro e_ w12 ⟨rfl, rfl⟩))
                refine NoP.ret ?_
                have hfin := open_fin HR11.out ((HB11.out.block D HDL.out).trans HK.out) (below_step HBW2.out HB11.out) HD2.out (.int .i64 0) (.slice none 0 0) (.int .i64 23)
                exact open_out1 (x := .int .i64 0) (y := .slice none 0 0) (e := .int .i64 23) w.heap.size (w.heap.size + 1) rfl rfl rfl hfin.1 HDR.out.1 HDR.out.2 (HR11.out.store _ _ _).1 (HR11.out.store _ _ _).2 ⟨_, rfl, Kd.S_nil _ _ _ _ _, hfin.2.1⟩
            case neg =>
              rw [if_neg hmx] at hv
              subst hv
              have hdm : decide (0 < maxI (0 :: (b.take 380).drop off)) = false := decide_eq_false hmx
              as_aux_lemma =>
                go_wp2_with (first
                  | (go_at_call 23; refine (segment_Check.calls sq DB eB xs 0 _ (Kd.S_reads' HS2.out).2.2 (Kd.S_reads' HS2.out).2.1 (by show some (checkI sq xs) = _; rw [HCK.out])).mono ?_; rintro e_ w9 ⟨rfl, hb⟩; have HB9 := Aside0.mk hb; obtain ⟨G, w11, hrz, hC11, hb11⟩ := rest_grown (below_step HBW2.out HB9.out) H0.out H384.out off (c - off) (Nat.lt_of_lt_of_le (by decide) HOFF2.out.1) HOFF2.out.2; have HB11 := Aside0.mk (HB9.out.trans (Below.mono hb11 HB9.out.size)); have HR11 := Aside0.mk (HRES.out.below HB11.out); have HC11 := Aside0.mk hC11; have HZ := Aside0.mk hrz; obtain ⟨f1, f2, f3, f4, f5, f6⟩ := HR11.out.facts; have hcR9 : (w9.alloc (.cells #[.int .u8 0] 5)).cell? ⟨B + 1, 0, none⟩ = _ := ((HB9.out.alloc HB9.out.size (.cells #[.int .u8 0] 5)).cell (World.block_lt_of_cell? W _ hcR)).trans hcR; have hcS011 := (HB11.out.cell (World.block_lt_of_cell? W _ hcS0)).trans hcS0; have hcS111 := (HB11.out.cell (World.block_lt_of_cell? W _ hcS1)).trans hcS1; clear hb hb11 hC11 hrz)
                  | (at_builtin; refine Lib.wpList_append_run _ rfl _ _ _ _ rfl _ _ rfl rfl _ _ (HZ.out _) ?_)
                  | (go_at_call 33; refine (max_at HC11.out HOFF2.out.2).mono ?_; rintro e_ w12 ⟨rfl, rfl⟩))
                refine NoP.ret ?_
                have hfin := open_fin HR11.out ((HB11.out.block D HDL.out).trans HK.out) (below_step HBW2.out HB11.out) HD2.out (.int .i64 sq) (.slice DB xs.length eB) (.int .i64 0)
                exact open_out1 (x := .int .i64 sq) (y := .slice DB xs.length eB) (e := .int .i64 0) w.heap.size (w.heap.size + 1) rfl rfl rfl hfin.1 HDR.out.1 HDR.out.2 (HR11.out.store _ _ _).1 (HR11.out.store _ _ _).2 ⟨_, rfl, fin_S HS2.out (Nat.le_trans (Nat.le_add_right _ 2) (Nat.le_trans HWB.out (Nat.le_add_right B 4))) (fun k o hk ho hc => hfin.2.2 k o (Nat.le_trans HWB.out (Nat.le_trans (Nat.le_add_right B 4) hk)) ((HB11.out.block k (Array.getElem?_eq_some_iff.1 ho).1).trans ho) hc), hfin.2.1⟩
      case body =>
        as_aux_lemma =>
          rintro l pre x W ⟨⟨⟨vB, h1, h2⟩, h3, h4, h5, h6, h7⟩, hBw⟩ hlt
          have hX := x.isLt
          have hlen : (pre.map (·.val)).length = pre.length := List.length_map _
          have hfold : ((pre ++ [x]).map (·.val)).foldl (open_step b) ([], m) = open_step b ((pre.map (·.val)).foldl (open_step b) ([], m)) x.val := by rw [List.map_append, List.foldl_append]; rfl
          have hmem : ∀ y ∈ (pre ++ [x]).map (·.val), y ∈ pre.map (·.val) ∨ y = x.val := by simp
          rw [hlen] at h4
          have HFOLD := Aside0.mk hfold
          have HMEM := Aside0.mk hmem
          have HSM := Aside0.mk h6
          clear hfold hmem h6 hlen
          have hxl : ((pre.map (·.val)).foldl (open_step b) ([], m)).1.length = pre.length := by rw [open_count]; simp
          generalize x.val = X at *
          generalize (pre.map (·.val)).foldl (open_step b) ([], m) = st at *
          obtain ⟨xs, off⟩ := st
          simp only at h2 h3 h4 hxl
          have HXS := Aside0.mk (show xs.length = pre.length from hxl)
          clear hxl
          have hn8 : n ≤ 8 := h8
          have hm8 : m ≤ 61 := by have := HM.out; omega
          have h0m : 13 ≤ m := by have := HM.out; omega
          have hoff : 13 ≤ off ∧ off ≤ 317 - 32 := by omega
          have HBW := Aside0.mk hBw
          have hkx := open_byte HOC.out H384.out (13 + 6 * X + 5) (by omega)
          have hx5 := open_cell HBW.out H0.out H384.out (13 + 6 * X + 5) (by omega) (by omega)
          have hx4 := open_cell HBW.out H0.out H384.out (13 + 6 * X + 4) (by omega) (by omega)
          have hk4 := open_byte HOC.out H384.out (13 + 6 * X + 4) (by omega)
          rw [show a0.off + (13 + 6 * X + 5) = a0.off + 13 + 6 * X + 5 by omega] at hx5
          rw [show a0.off + (13 + 6 * X + 4) = a0.off + 13 + 6 * X + 4 by omega] at hx4
          obtain ⟨kx, hkk⟩ : ∃ kx : Nat, rd b ((13 + 6 * X + 5 : Nat) : Int) = (kx : Int) := ⟨(rd b ((13 + 6 * X + 5 : Nat) : Int)).toNat, by omega⟩
          obtain ⟨i4, hi4⟩ : ∃ i4, i4 = rd b ((13 + 6 * X + 4 : Nat) : Int) := ⟨_, rfl⟩
          rw [hkk] at hx5 hkx
          rw [← hi4] at hx4 hk4
          have HKK := Aside0.mk hkk
          have HI4 := Aside0.mk hi4
          have H1 := Aside0.mk h1
          have H2 := Aside0.mk h2
          have H3 := Aside0.mk h3
          have H5 := Aside0.mk h5
          clear hkk hi4 h1 h2 h3 h5 hBw
          by_cases hk : kx ≤ 32
          case neg =>
            as_aux_lemma =>
              have hd : decide (32 < (kx : Int)) = true := by simp; omega
              have hbig : openBig b n = true := by
                unfold openBig
                rw [List.any_eq_true]
                exact ⟨X, List.mem_range.2 hX, by rw [HKK.out]; exact hd⟩
              have HBIG := Aside0.mk hbig
              clear hbig
              obtain ⟨f1, f2, f3, f4, f5, f6⟩ := H5.out.facts
              have hwk := wrap_small hkx.1 hkx.2
              clear hx4 hk4 hkx hk hoff h4 hm8 h0m hlt hX h7
              gi_wp2
              refine ⟨(((KeepsOthers.setCell _ _ _).trans (KeepsOthers.setCell _ _ _)).trans (KeepsOthers.setCell _ _ _)).from _, ?_⟩
              refine ⟨by first | exact ⟨rfl, HBIG.out, H5.out.store _ _ _⟩ | exact ⟨HBIG.out, H5.out.store _ _ _⟩, ?_⟩
              exact ((HBW.out.setCell (Nat.le_refl _) _).setCell (Nat.le_refl _) _).setCell (Nat.le_succ _) _
          case pos =>
            as_aux_lemma =>
              have hd : decide (32 < (kx : Int)) = false := by simp; omega
              have hcB := blk_cell H1.out 1
              have hcR := blk_cell H3.out 0
              have k4 := open_to a0.block (a0.off + 13 + 6 * X) 6 6 4 (by omega) (by omega)
              have k5 := open_to a0.block (a0.off + off) (380 - off) (c - off) kx (by omega) (by omega)
              have k6 := open_from a0.block (a0.off + off) (380 - off) (c - off) kx (380 - (off + kx)) (by omega) (by omega) (by omega)
              have hX8 : X < 8 := by omega
              have g1 : 0 < off := by omega
              have g2 : off + kx ≤ 380 := by omega
              have g3 : kx ≤ c - off := by omega
              have g4 : 4 ≤ 6 := by omega
              have H4 := Aside0.mk (show m ≤ off + kx ∧ off + kx ≤ m + 32 * (pre.length + 1) by omega)
              have H7 := Aside0.mk h7
              have HK32 := Aside0.mk (show (kx : Int) ≤ 32 by omega)
              have HX8 := Aside0.mk hX8
              have HLL := Aside0.mk (show (xs.length + 1) * 40 ≤ 140737488355328 by have := HXS.out; omega)
              have hwk := wrap_small hkx.1 hkx.2
              have hw4 := wrap_small hk4.1 hk4.2
              clear hkx hk4 hoff h4 hm8 h0m hlt h7 hk g4
              gi_wp2
              refine start_in (r := l) (n := 18) (S := fun w' => w'.cell? ⟨B, 1, none⟩ = some vB ∧ w'.cell? ⟨a0.block, a0.off + 13 + 6 * X + 4, none⟩ = some (.int .u8 i4) ∧ w'.cell? ⟨B + 1, 0, none⟩ = some (.slice (some ⟨a0.block, a0.off + off, none⟩) (380 - off) (c - off))) (ds := [15, 17]) #[false, false, false, false, false, false, false, false, false, false, false, false, false, false, false, false, false, false] (by kernel_rfl) rfl rfl (by kernel_rfl) (by rintro ⟨_, _, h_⟩; exact h_) ⟨hcB, hx4, hcR⟩ (fun hHeld => ?_); refine with_tabW open_tab17 open_bits17 (fun HT_ HW_ => ?_)
              refine pure_ (i := 0) (N := some 64) (v := ?_) (a' := ?_) #[true, false, false, false, false, false, false, false, false, false, false, false, false, false, false, false, false, false] rfl rfl (any_of HT_.out (by kernel_rfl)) (fun _ _ _ h => h) (Or.inl ⟨by rfl, ?_⟩) ?_ ?_
              rotate_left
              · intro w'
                go_simp
                with_reducible rfl
              rotate_left
              · simp only [Act.put, List.setIfInBounds_toArray, List.set_cons_zero, List.set_cons_succ, i64_w, i32_w]
                rfl
              refine pure_ (i := 2) (N := some 66) (v := ?_) (a' := ?_) #[true, false, true, false, false, false, false, false, false, false, false, false, false, false, false, false, false, false] rfl rfl (any_of HT_.out (by kernel_rfl)) (fun _ _ _ h => h) (Or.inl ⟨by rfl, ?_⟩) ?_ ?_
              rotate_left
              · intro w'
                go_simp
                with_reducible rfl
              rotate_left
              · simp only [Act.put, List.setIfInBounds_toArray, List.set_cons_zero, List.set_cons_succ, i64_w, i32_w]
                rfl
              refine pure_ (i := 3) (N := some 67) (v := ?_) (a' := ?_) #[true, false, true, true, false, false, false, false, false, false, false, false, false, false, false, false, false, false] rfl rfl (any_of HT_.out (by kernel_rfl)) (fun _ _ _ h => h) (Or.inl ⟨by rfl, ?_⟩) ?_ ?_
              rotate_left
              · intro w'
                go_simp
                with_reducible rfl
              rotate_left
              · simp only [Act.put, List.setIfInBounds_toArray, List.set_cons_zero, List.set_cons_succ, i64_w, i32_w]
                rfl
              refine pure_ (i := 5) (N := some 69) (v := ?_) (a' := ?_) #[true, false, true, true, false, true, false, false, false, false, false, false, false, false, false, false, false, false] rfl rfl (any_of HT_.out (by kernel_rfl)) (fun _ _ _ h => h) (Or.inl ⟨by rfl, ?_⟩) ?_ ?_
              rotate_left
              · intro w'
                go_simp
                with_reducible rfl
              rotate_left
              · simp only [Act.put, List.setIfInBounds_toArray, List.set_cons_zero, List.set_cons_succ, i64_w, i32_w]
                rfl
              refine pure_ (i := 6) (N := some 70) (v := ?_) (a' := ?_) #[true, false, true, true, false, true, true, false, false, false, false, false, false, false, false, false, false, false] rfl rfl (any_of HT_.out (by kernel_rfl)) (fun _ _ _ h => h) (Or.inl ⟨by rfl, ?_⟩) ?_ ?_
              rotate_left
              · intro w'
                go_simp
                with_reducible rfl
              rotate_left
              · simp only [Act.put, List.setIfInBounds_toArray, List.set_cons_zero, List.set_cons_succ, i64_w, i32_w]
                rfl
              refine pure_ (i := 10) (N := some 74) (v := ?_) (a' := ?_) #[true, false, true, true, false, true, true, false, false, false, true, false, false, false, false, false, false, false] rfl rfl (any_of HT_.out (by kernel_rfl)) (fun _ _ _ h => h) (Or.inl ⟨by rfl, ?_⟩) ?_ ?_
              rotate_left
              · intro w'
                go_simp
                with_reducible rfl
              rotate_left
              · simp only [Act.put, List.setIfInBounds_toArray, List.set_cons_zero, List.set_cons_succ, i64_w, i32_w]
                rfl
              refine take_ (i := 1) (N := some 65) (v := ?_) (a' := ?_) #[true, true, true, true, false, true, true, false, false, false, true, false, false, false, false, false, false, false] rfl rfl (take_ofW HT_.out HW_.out (by kernel_rfl)) (fun _ _ _ h => h) (Or.inl ⟨by rfl, ?_⟩) hHeld ?_ ?_
              rotate_left
              · rintro w' ⟨s0, s1, s2⟩
                go_simp
                with_reducible rfl
              rotate_left
              · simp only [Act.put, List.setIfInBounds_toArray, List.set_cons_zero, List.set_cons_succ, i64_w, i32_w]
                rfl
              refine take_ (i := 7) (N := some 71) (v := ?_) (a' := ?_) #[true, true, true, true, false, true, true, true, false, false, true, false, false, false, false, false, false, false] rfl rfl (take_ofW HT_.out HW_.out (by kernel_rfl)) (fun _ _ _ h => h) (Or.inl ⟨by rfl, ?_⟩) hHeld ?_ ?_
              rotate_left
              · rintro w' ⟨s0, s1, s2⟩
                go_simp
                with_reducible rfl
              rotate_left
              · simp only [Act.put, List.setIfInBounds_toArray, List.set_cons_zero, List.set_cons_succ, i64_w, i32_w]
                rfl
              refine take_ (i := 9) (N := some 73) (v := ?_) (a' := ?_) #[true, true, true, true, false, true, true, true, false, true, true, false, false, false, false, false, false, false] rfl rfl (take_ofW HT_.out HW_.out (by kernel_rfl)) (fun _ _ _ h => h) (Or.inl ⟨by rfl, ?_⟩) hHeld ?_ ?_
              rotate_left
              · rintro w' ⟨s0, s1, s2⟩
                go_simp
                with_reducible rfl
              rotate_left
              · simp only [Act.put, List.setIfInBounds_toArray, List.set_cons_zero, List.set_cons_succ, i64_w, i32_w]
                rfl
              refine pure_ (i := 8) (N := some 72) (v := ?_) (a' := ?_) #[true, true, true, true, false, true, true, true, true, true, true, false, false, false, false, false, false, false] rfl rfl (any_of HT_.out (by kernel_rfl)) (fun _ _ _ h => h) (Or.inl ⟨by rfl, ?_⟩) ?_ ?_
              rotate_left
              · intro w'
                go_simp
                with_reducible rfl
              rotate_left
              · simp only [Act.put, List.setIfInBounds_toArray, List.set_cons_zero, List.set_cons_succ, i64_w, i32_w]
                rfl
              refine pure_ (i := 11) (N := some 75) (v := ?_) (a' := ?_) #[true, true, true, true, false, true, true, true, true, true, true, true, false, false, false, false, false, false] rfl rfl (any_of HT_.out (by kernel_rfl)) (fun _ _ _ h => h) (Or.inl ⟨by rfl, ?_⟩) ?_ ?_
              rotate_left
              · intro w'
                go_simp
                with_reducible rfl
              rotate_left
              · simp only [Act.put, List.setIfInBounds_toArray, List.set_cons_zero, List.set_cons_succ, i64_w, i32_w]
                rfl
              refine one_ (i := 4) (N := some 68) #[true, true, true, true, true, true, true, true, true, true, true, true, false, false, false, false, false, false] rfl rfl (one_of HT_.out (by kernel_rfl)) (by decide) (fun K hK => ?_)
              refine goes_ Tryd.func29 (by kernel_rfl) rfl #[.slice (some ⟨a0.block, a0.off + 13 + 6 * X, none⟩) 4 6] (by rfl) rfl rfl (by (try simp only [List.map_toArray, List.map_cons, List.map_nil]); first | done | rfl) ?_
              refine (get_at2 (below_drew1 HBW.out) H0.out H384.out HOC.out X 6 HX8.out (by decide)).mono ?_
              rintro e_ w9 ⟨rfl, hb⟩
              refine ⟨_, rfl, ?_⟩
              have HK9 := Aside0.mk ((below_drew1 (Below.refl W.heap.size W)).trans hb)
              clear hb
              refine hK.out _ _ ⟨(HK9.out.cell (World.block_lt_of_cell? W _ hcB)).trans hcB, (HK9.out.cell (World.block_lt_of_cell? W _ hx4)).trans hx4, (HK9.out.cell (World.block_lt_of_cell? W _ hcR)).trans hcR⟩ (fun hHeld => ?_)
              clear hK K
              refine norm_ (a' := ?_) ?_ ?_
              rotate_left
              · show Act.put _ (some 68) _ = _
                simp only [Act.put, List.setIfInBounds_toArray, List.set_cons_zero, List.set_cons_succ, i64_w, i32_w]
                rfl
              refine one_ (i := 12) (N := some 76) #[true, true, true, true, true, true, true, true, true, true, true, true, true, false, false, false, false, false] rfl rfl (one_of HT_.out (by kernel_rfl)) (by decide) (fun K hK => ?_)
              refine goes_ Tryd.func32 (by kernel_rfl) rfl #[.slice (some ⟨a0.block, a0.off + off, none⟩) kx (c - off)] (by rfl) rfl rfl (by (try simp only [List.map_toArray, List.map_cons, List.map_nil]); first | done | rfl) ?_
              refine (clone_at (below_step HBW.out HK9.out) H0.out H384.out off kx (c - off) g1 g2 g3).mono ?_
              rintro e_ w10 ⟨v10, rfl, ho10, hb⟩
              refine ⟨_, rfl, ?_⟩
              have HK10 := Aside0.mk (HK9.out.trans (Below.mono hb HK9.out.size))
              have HS9 := Aside0.mk HK9.out.size
              have HR10 := Aside0.mk ho10
              clear hb ho10 HK9
              refine hK.out _ _ ⟨(HK10.out.cell (World.block_lt_of_cell? W _ hcB)).trans hcB, (HK10.out.cell (World.block_lt_of_cell? W _ hx4)).trans hx4, (HK10.out.cell (World.block_lt_of_cell? W _ hcR)).trans hcR⟩ (fun hHeld => ?_)
              clear hK K
              refine norm_ (a' := ?_) ?_ ?_
              rotate_left
              · show Act.put _ (some 76) _ = _
                simp only [Act.put, List.setIfInBounds_toArray, List.set_cons_zero, List.set_cons_succ, i64_w, i32_w]
                rfl
              obtain ⟨Ao, co, rfl⟩ := Kd.R_slice HR10.out
              have HE : (⟨getI ((b.drop (13 + 6 * X)).take 4), i4, ((b.take 380).drop off).take kx⟩ : S43) = ⟨getI ((b.drop (13 + 6 * X)).take 4), i4, ((b.take 380).drop off).take kx⟩ := rfl
              clear HE
              obtain ⟨l1, hl1⟩ : ∃ l1, l1 = ((b.take 380).drop off).take kx := ⟨_, rfl⟩
              rw [← hl1] at HR10 ⊢
              have HL1 := Aside0.mk hl1
              clear hl1
              obtain ⟨ow, how⟩ : ∃ ow, ow = getI ((b.drop (13 + 6 * X)).take 4) := ⟨_, rfl⟩
              rw [← how]
              have HOW := Aside0.mk how
              clear how
              refine pure_ (i := 13) (N := some 77) (v := ?_) (a' := ?_) #[true, true, true, true, true, true, true, true, true, true, true, true, true, true, false, false, false, false] rfl rfl (any_of HT_.out (by kernel_rfl)) (fun _ _ _ h => h) (Or.inl ⟨by rfl, ?_⟩) ?_ ?_
              rotate_left
              · intro w'
                go_simp
                with_reducible rfl
              rotate_left
              · simp only [Act.put, List.setIfInBounds_toArray, List.set_cons_zero, List.set_cons_succ, i64_w, i32_w]
                rfl
              refine one_ (i := 14) (N := some 78) #[true, true, true, true, true, true, true, true, true, true, true, true, true, true, true, false, false, false] rfl rfl (one_of HT_.out (by kernel_rfl)) (by decide) (fun K hK => ?_)
              refine value_ (w1 := ?_) (v := ?_) (by rfl) rfl ?_ ?_
              rotate_left 2
              · go_simp
                constructor
                · rfl
                · rfl
              have HKA := Aside0.mk (HK10.out.alloc (below_size HK10.out) (.cells #[.int .i64 ow, .int .i64 i4, .slice Ao l1.length co] 43))
              refine hK.out _ _ ⟨(HKA.out.cell (World.block_lt_of_cell? W _ hcB)).trans hcB, (HKA.out.cell (World.block_lt_of_cell? W _ hx4)).trans hx4, (HKA.out.cell (World.block_lt_of_cell? W _ hcR)).trans hcR⟩ (fun hHeld => ?_)
              clear hK K
              refine norm_ (a' := ?_) ?_ ?_
              rotate_left
              · show Act.put _ (some 78) _ = _
                simp only [Act.put, List.setIfInBounds_toArray, List.set_cons_zero, List.set_cons_succ, i64_w, i32_w]
                rfl
              have hne : ∀ k, (Value.slice Ao l1.length co).ownBlock = some k → W.heap.size ≤ k := fun k hk => Nat.le_trans HS9.out (Kd.R_base HR10.out k hk)
              have hvB : ∀ k, vB.ownBlock = some k → k < W.heap.size := Kd.S_lt H2.out
              refine last_ (i := 15) (N := some 79) #[true, true, true, true, true, true, true, true, true, true, true, true, true, true, true, true, false, false] rfl rfl (one_of HT_.out (by kernel_rfl)) (by decide) (fun K hK => ?_)
              refine Kd.S_append_step k43 (w0 := W) (B + 4) (by rfl) (.tmp 65) (.tmp 78) 30 43 (.agg #[(.int .i64 0), (.int .i64 0), (.slice none 0 0)]) 40 rfl Tryd.underlying30 info43 rfl (by decide) (by decide) vB xs (⟨ow, i4, l1⟩ : S43) [.int .i64 ow, .int .i64 i4, .slice Ao l1.length co] (fun _ => True) (fun k_ => some k_ = (.slice Ao l1.length co : Value).ownBlock ∧ some k_ ≠ vB.ownBlock) rfl rfl ?aP ?aK ?aF ?aO ?aB ?aS ?aL ?_
              (case aP => exact k43_mkM _ _ _ (⟨ow, i4, l1⟩ : S43) (Kd.R_mono (Kd.R_tight rfl (Kd.R_lower HR10.out (Nat.le_trans H7.out HS9.out))) (fun k hk => ⟨hk, fun e => Nat.lt_irrefl _ (Nat.lt_of_lt_of_le (hvB k e.symm) (hne k hk.symm))⟩)))
              (case aK => exact fun k hk => ⟨trivial, hk.2⟩)
              (case aF => exact fun _ _ => trivial)
              (case aO => exact Kd.S_mono (Kd.S_below (Kd.S_bound H2.out) HK10.out) (fun k hk => ⟨trivial, fun h_ => Nat.lt_irrefl _ (Nat.lt_of_lt_of_le hk.2.2.1 (hne k h_.1.symm))⟩))
              (case aB => exact Below.mono HK10.out H7.out)
              (case aS => exact Nat.le_trans H7.out HK10.out.size)
              (case aL => exact HLL.out)
              intro v12 w12 ho hb hg hat
              obtain ⟨D12, e12, rfl⟩ := Kd.S_slice ho
              have HO12 := Aside0.mk ho
              have HB12 := Aside0.mk hb
              have HG12 := Aside0.mk hg
              clear ho hb hg hat
              refine hK.out _ _ ?_
              clear hK K
              refine norm_ (a' := ?_) ?_ ?_
              rotate_left
              · show Act.put _ (some 79) _ = _
                simp only [Act.put, List.setIfInBounds_toArray, List.set_cons_zero, List.set_cons_succ, i64_w, i32_w]
                rfl
              have hB1 : w12.heap[B]? = _ := (HB12.out.block B (Nat.lt_add_of_pos_right (by decide))).trans H1.out
              have hR1 : w12.heap[B + 1]? = _ := (HB12.out.block (B + 1) (Nat.add_lt_add_left (by decide) B)).trans H3.out
              have u1 := blk_cell hB1 1
              have u2 := blk_frozen hB1 1
              have u3 := blk_cell hR1 0
              have u4 := blk_frozen hR1 0
              refine pure_ (i := 16) (N := some 80) (v := ?_) (a' := ?_) #[true, true, true, true, true, true, true, true, true, true, true, true, true, true, true, true, true, false] rfl rfl (any_of HT_.out (by kernel_rfl)) (fun _ _ _ h => h) (Or.inl ⟨by rfl, ?_⟩) ?_ ?_
              rotate_left
              · intro w'
                go_simp
                with_reducible rfl
              rotate_left
              · simp only [Act.put, List.setIfInBounds_toArray, List.set_cons_zero, List.set_cons_succ, i64_w, i32_w]
                rfl
              refine last_ (i := 17) (N := none) #[true, true, true, true, true, true, true, true, true, true, true, true, true, true, true, true, true, true] rfl rfl (one_of HT_.out (by kernel_rfl)) (by decide) (fun K hK => ?_)
              refine skip_ (w1 := ?_) (by rfl) rfl ?_ ?_
              rotate_left 1
              · go_simp
                rfl
              refine hK.out _ _ ?_
              clear hK K
              refine done_ (done_of HT_.out (by kernel_rfl)) ?_
              gi_wp2
              have hl9 : (xs ++ [(⟨ow, i4, l1⟩ : S43)]).length = xs.length + 1 := by simp
              have HO13 := HO12.out
              rw [hl9] at HO13
              have hf : ((pre ++ [x]).map (·.val)).foldl (open_step b) ([], m) = (xs ++ [(⟨ow, i4, l1⟩ : S43)], off + kx) := by
                rw [HFOLD.out]
                unfold open_step
                simp only
                rw [HKK.out, Int.toNat_natCast, ← HI4.out, ← HL1.out, ← HOW.out]
              have hN := open_next (b := b) (g := a0.block) (o := a0.off) (c := c) (m := m) (preN := (pre ++ [x]).map (·.val)) W0.heap.size H1.out ⟨_, H3.out⟩ H5.out HBW.out HK10.out HG12.out H2.out HB12.out HO13 H7.out HWB.out hf (by rw [List.length_map, List.length_append, List.length_singleton]; exact H4.out) (fun y hy => by
                rcases HMEM.out y hy with h_ | h_
                · exact HSM.out y h_
                · rw [h_, HKK.out]; exact HK32.out)
              rw [Nat.sub_add_eq c off kx, ← Nat.add_assoc a0.off off kx] at hN
              exact ⟨hN.1, hN.2.1, hN.2.2⟩
theorem segment_Open.calls (A : Option Addr) (c : Nat) (b : List Int) (r1 : Int) (r2 : List S43) (r3 : Int) (w : World) (hr0 : Kd.C (Kd.int .u8) w A b.length b) (hc0 : b.length ≤ c) (h : segment_Open.f b = some (r1, r2, r3)) :
    Calls Tryd.prog 13 #[.slice A b.length c] w fun e w' => ∃ v1_ : Value, e = .returned (.tuple #[.agg #[.int .i64 r1, v1_], .int .i64 r3]) ∧ Kd.S k43 43 w' w.heap.size (fun _ => True) v1_ r2 ∧ Below w.heap.size w w' := by
  unfold segment_Open.f at h
  by_cases ho : octs b = true
  case neg => rw [if_neg ho] at h; cases h
  rw [if_pos ho] at h
  by_cases hl : b.length = 384
  · rw [if_pos hl] at h
    obtain ⟨s, hs, h⟩ := Option.bind_eq_some_iff.1 h
    obtain ⟨p, hp, h⟩ := Option.bind_eq_some_iff.1 h
    have hv := Option.some.inj h
    have := open_main A c b s p w hr0 hc0 hl ho hs hp (r1, r2, r3) hv
    rw [hl]
    exact this
  · rw [if_neg hl] at h
    obtain ⟨rfl, h2⟩ := Prod.mk.inj (Option.some.inj h)
    obtain ⟨rfl, rfl⟩ := Prod.mk.inj h2
    refine (open_len A c b w hl).mono ?_
    rintro e w' ⟨rfl, hb⟩
    exact ⟨_, rfl, Kd.S_nil _ _ _ _ _, hb⟩
end

end Go.Proofs.YtokjiinlhghggaaDoor.PTel
