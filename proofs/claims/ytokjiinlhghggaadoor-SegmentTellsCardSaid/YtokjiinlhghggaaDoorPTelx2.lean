-- Written by a program of this session (gen.py).
import Derived.Test.YtokjiinlhghggaaDoorPTelx0
namespace Go.Proofs.YtokjiinlhghggaaDoor.PTel
open Go.RowKit Go.Proofs.YtokjiinlhghggaaDoorW.PrintWords Go.Proofs.YtokjiinlhghggaaDoorW.PrintLast Go.Proofs.YtokjiinlhghggaaDoorW.PrintMore
open Go.Proofs.YtokjiinlhghggaaDoor.Own
attribute [local go_sem high] unary_not_u32 unary_not_u64 unary_not_u8 string_leq_ string_gtr_
attribute [local go_sem] max2_int min2_int max_two min_two max_three min_three max_four min_four   -- for this text's walks alone
set_option linter.unusedVariables false
set_option linter.unusedSimpArgs false

/-! ### crc_Extend: function 46 -/
/-- One bit of the register. -/
def nstep (c : Int) : Int := bits .xor .u32 (c / 2) (bits .and .u32 3988292384 (-bits .and .u32 c 1 % 4294967296))
def nibT : Nat → Int → Int
  | 0, c => c
  | n + 1, c => nstep (nibT n c)
theorem nibT_succ (n : Nat) (c : Int) : nibT (n + 1) c = bits .xor .u32 (nibT n c / 2) (bits .and .u32 3988292384 (-bits .and .u32 (nibT n c) 1 % 4294967296)) := rfl
def tabRow (k : Nat) : Array Value := ((List.range 16).map fun j => Value.int .u32 (if j < k then nibT 4 j else 0)).toArray
theorem tabRow_get (k j : Nat) (h : j < 16) : (tabRow k)[j]? = some (Value.int .u32 (if j < k then nibT 4 j else 0)) := by simp [tabRow, h]
theorem tabRow_size (k : Nat) : (tabRow k).size = 16 := by simp [tabRow]
theorem tabRow_set (k : Nat) (h : k < 16) : (tabRow k).setIfInBounds k (Value.int .u32 (nibT 4 k)) = tabRow (k + 1) := by
  apply Array.ext_getElem?
  intro j
  rw [Array.getElem?_setIfInBounds]
  by_cases hj : j < 16
  · by_cases e : k = j
    · subst e
      rw [if_pos rfl, tabRow_size, if_pos h, tabRow_get _ _ h, if_pos (by omega)]
    · rw [if_neg e, tabRow_get _ _ hj, tabRow_get _ _ hj]
      congr 2
      by_cases h1 : j < k
      · rw [if_pos h1, if_pos (by omega)]
      · rw [if_neg h1, if_neg (by omega)]
  · have e : k ≠ j := by omega
    rw [if_neg e, Array.getElem?_eq_none (by rw [tabRow_size]; omega), Array.getElem?_eq_none (by rw [tabRow_size]; omega)]
theorem tabRow_zero : tabRow 0 = #[.int .u32 0, .int .u32 0, .int .u32 0, .int .u32 0, .int .u32 0, .int .u32 0, .int .u32 0, .int .u32 0, .int .u32 0, .int .u32 0, .int .u32 0, .int .u32 0, .int .u32 0, .int .u32 0, .int .u32 0, .int .u32 0] := by
  rfl
def Tab (w : World) (e : Ending) (w' : World) : Prop := e = .returned (.agg (tabRow 16)) ∧ Below w.heap.size w w'
theorem crc_nibbles_calls (w : World) : Calls Tryd.prog 56 #[] w (Tab w) := by
  go_enter Tryd.func56, Tryd.ntmps56
  go_wp2
  go_loopw [4] (fun i wr => ∃ k : Nat, k ≤ 16 ∧ i = .int .i64 k ∧ (wr.heap[w.heap.size]? = some (.cells (tabRow 0) 93 (0, 0)) ∧ wr.heap[w.heap.size + 1]? = some (.cells (tabRow k) 93 (0, 0)) ∧ wr.heap.size = w.heap.size + 2) ∧ Below w.heap.size w wr) (fun i _ => 16 - (intOf i).toNat)
  case atStart =>
    refine ⟨0, by omega, rfl, ⟨?_, ?_, by simp⟩, ((Below.refl _ _).alloc (Nat.le_refl _) _).alloc (by simp) _⟩
    · rw [heap_alloc2_old, tabRow_zero]
    · rw [heap_alloc2_new, tabRow_zero]
  case round =>
    obtain ⟨k, hk, rfl, hs, hb⟩ := hrel
    have HS := Aside0.mk hs
    have HB := Aside0.mk hb
    clear hs hb
    by_cases hlt : k < 16
    · have hc : wr.cell? ⟨w.heap.size + 1, k, none⟩ = some (.int .u32 0) := by
        rw [cell_of_row _ _ _ _ _ _ HS.out.2.1, tabRow_get k k hlt]; simp
      have hf : wr.frozen? ⟨w.heap.size + 1, k, none⟩ = false := frozen_of_row _ _ _ _ _ HS.out.2.1
      have hd : decide ((k : Int) < 16) = true := by simp; omega
      go_wp2
      go_loop [3, 9] (fun c j => ∃ q : Nat, q ≤ 4 ∧ j = .int .i64 q ∧ c = .int .u32 (nibT q k)) (fun _ j => 4 - (intOf j).toNat)
      case atStart => exact ⟨0, by omega, rfl, rfl⟩
      case round =>
        obtain ⟨q, hq, rfl, rfl⟩ := hrel
        by_cases hl2 : q < 4
        · go_wp2
          go_round
          case rel => exact ⟨q + 1, by omega, by go_num, by rw [nibT_succ]⟩
          case measure => simp [intOf]; omega
        · go_wp2
          go_roundw
          case rel =>
            obtain rfl : q = 4 := by omega
            refine ⟨k + 1, by omega, by go_num, ⟨?_, ?_, ?_⟩, ?_⟩
            · rw [heap_setCell_other _ _ _ _ (by simp)]; exact HS.out.1
            · rw [heap_setCell_same _ _ _ _ _ _ HS.out.2.1, tabRow_set k hlt]
            · have := HS.out.2.2; simpa using this
            · exact HB.out.setCell (by simp) _
          case measure => simp [intOf]; omega
    · obtain rfl : k = 16 := by omega
      have hd : decide ((16 : Int) < 16) = false := rfl
      have hst : (storeCells ⟨w.heap.size, 0, none⟩ (tabRow 16).toList).run Tryd.prog wr = .ok () (wr.setRow w.heap.size (tabRow 16)) := by
        rw [run_storeCells_from w.heap.size 93 (tabRow 16).toList 0 (tabRow 0) wr HS.out.1 (by simp [tabRow_size]) (by intro v hv; simp [tabRow] at hv; obtain ⟨a, _, rfl⟩ := hv; rfl)]
        simp
      go_wp2_with (with_reducible refine wpList_load_row rfl 93 _ rfl (w.heap.size + 1) rfl 93 (tabRow 16) (0, 0) _ HS.out.2.1 Tryd.underlying93 rfl (by kernel_rfl) ?_)
      refine bodyPost_ret (results_cell_row rfl _ _ w.heap.size 93 (tabRow 16) (0, 0) _ rfl (setRow_heap _ _ _ _ _ _ HS.out.1) Tryd.underlying93 rfl (by kernel_rfl)) rfl ⟨rfl, ?_⟩
      exact ⟨HB.out.os, HB.out.tape, HB.out.output, by simpa using HB.out.size, fun i hi => (setRow_other _ _ _ _ (by omega)).trans (HB.out.block i hi)⟩

/-- An octet more. -/
def hstep (c : Int) : Int := bits .xor .u32 (c / 16) (nibT 4 (bits .and .u32 c 15))
def rstep (c x : Int) : Int := hstep (hstep (bits .xor .u32 c (x % 4294967296)))
def crcI (c : Int) (l : List Int) : Int := l.foldl rstep c
def crc_Extend.f (a0 : Int) (l1 : List Int) : Option Int := some (bits .xor .u32 4294967295 (crcI (bits .xor .u32 4294967295 a0) l1))
theorem and15_range (a : Int) : 0 ≤ bits .and .u32 a 15 ∧ bits .and .u32 a 15 < 16 := by
  unfold bits
  rw [IntKind.wrap_u32]
  simp only [BitVec.toNat_and]
  have h : (BitVec.ofInt IntKind.u32.bits a).toNat &&& (BitVec.ofInt IntKind.u32.bits 15).toNat < 2 ^ 4 := Nat.and_lt_two_pow _ (by decide)
  omega
theorem take_snoc_foldl (l : List Int) (c : Int) (k : Nat) (h : k < l.length) : crcI c (l.take (k + 1)) = rstep (crcI c (l.take k)) (rd l k) := by
  unfold crcI rd
  rw [List.take_succ_eq_append_getElem h, List.foldl_append]
  simp [List.getD_eq_getElem?_getD, h]
theorem tab_cell (w : World) (b : Nat) (c : Int) (h : w.heap[b]? = some (.cells (tabRow 16) 93 (0, 0))) : w.cell? ⟨b, (bits .and .u32 c 15).toNat, none⟩ = some (.int .u32 (nibT 4 (bits .and .u32 c 15))) := by
  obtain ⟨h1, h2⟩ := and15_range c
  rw [cell_of_row _ _ _ _ _ _ h, tabRow_get _ _ (by omega), if_pos (by omega)]
  rw [Int.toNat_of_nonneg h1]
theorem tab_store (w1 : World) : (storeCells ⟨w1.heap.size, 0, none⟩ (tabRow 16).toList).run Tryd.prog (w1.alloc (.cells #[.int .u32 0, .int .u32 0, .int .u32 0, .int .u32 0, .int .u32 0, .int .u32 0, .int .u32 0, .int .u32 0, .int .u32 0, .int .u32 0, .int .u32 0, .int .u32 0, .int .u32 0, .int .u32 0, .int .u32 0, .int .u32 0] 93)) = .ok () (w1.alloc (.cells (tabRow 16) 93)) := by
  rw [← tabRow_zero]
  exact run_storeCells_new w1 93 (tabRow 0) (tabRow 16) (by kernel_rfl) (by rfl) (by
    rw [← Array.all_toList]
    apply List.all_eq_true.2
    intro v hv
    simp [tabRow] at hv
    obtain ⟨a, _, rfl⟩ := hv
    rfl)
theorem crc_Extend.calls (a0 : Int) (A1 : Option Addr) (c1 : Nat) (l1 : List Int) (r : Int) (w : World) (hr1 : Kd.C (Kd.int .u8) w A1 l1.length l1) (_ : l1.length ≤ c1) (h : crc_Extend.f a0 l1 = some r) :
    Calls Tryd.prog 46 #[.int .u32 a0, .slice A1 l1.length c1] w fun e w' => e = .returned (.int .u32 r) ∧ Below w.heap.size w w' := by
  have HR1 := Aside0.mk hr1
  have HH := Aside0.mk h
  clear hr1 h
  have hs1 : IntKind.u32.signed = false := rfl
  have hs2 : IntKind.u32.max = 4294967295 := by decide
  go_enter Tryd.func46, Tryd.ntmps46
  go_wp2_with (go_at_call 56; refine (crc_nibbles_calls _).mono ?_; rintro e w1 ⟨rfl, hb1⟩; have hst := tab_store w1)
  have HT := Aside0.mk (heap_alloc_new w1 (.cells (tabRow 16) 93))
  have HR := Aside0.mk (Kd.C_below HR1.out (Below.alloc hb1 hb1.size (.cells (tabRow 16) 93)))
  have HB := Aside0.mk (Below.alloc hb1 hb1.size (.cells (tabRow 16) 93))
  have HL := Aside0.mk HR1.out.2.1
  clear hst hb1 hs1 hs2
  go_loop [0, 13] (fun c i => ∃ k : Nat, k ≤ l1.length ∧ i = .int .i64 k ∧ c = .int .u32 (crcI (bits .xor .u32 4294967295 a0) (l1.take k))) (fun _ i => l1.length - (intOf i).toNat)
  case atStart => exact ⟨0, by omega, rfl, rfl⟩
  case round =>
    obtain ⟨k, hk, rfl, rfl⟩ := hrel
    by_cases hlt : k < l1.length
    · have hd : decide (k < l1.length) = true := by simpa using hlt
      obtain ⟨ad, rfl, hx⟩ := Kd.at_int HR.out (k : Int) (by omega) (by omega)
      rw [Int.toNat_natCast] at hx
      have hl := HL.out
      have hc1 := tab_cell _ _ (bits .xor .u32 (crcI (bits .xor .u32 4294967295 a0) (l1.take k)) (rd l1 k % 4294967296)) HT.out
      have hc2 := tab_cell _ _ (hstep (bits .xor .u32 (crcI (bits .xor .u32 4294967295 a0) (l1.take k)) (rd l1 k % 4294967296))) HT.out
      obtain ⟨p1, p2⟩ := and15_range (bits .xor .u32 (crcI (bits .xor .u32 4294967295 a0) (l1.take k)) (rd l1 k % 4294967296))
      obtain ⟨p3, p4⟩ := and15_range (hstep (bits .xor .u32 (crcI (bits .xor .u32 4294967295 a0) (l1.take k)) (rd l1 k % 4294967296)))
      unfold hstep at hc2 p3 p4
      have hts := take_snoc_foldl l1 (bits .xor .u32 4294967295 a0) k hlt
      unfold rstep hstep at hts
      have HTS := Aside0.mk hts
      clear hts
      go_wp2
      go_round
      case rel => exact ⟨k + 1, by omega, by go_num, by rw [HTS.out]⟩
      case measure => simp [intOf]; omega
    · obtain rfl : k = l1.length := by omega
      have hd : decide (l1.length < l1.length) = false := by simp
      have hs1 : IntKind.u32.signed = false := rfl
      have hs2 : IntKind.u32.max = 4294967295 := by decide
      rw [List.take_length]
      go_wp2
      go_ret
      have e := Option.some.inj HH.out
      exact ⟨by rw [← e]; rfl, HB.out⟩

/-! ### crc_Sum: function 27 -/
def crc_Sum.f (l0 : List Int) : Option (Int) := (crc_Extend.f 0 l0).bind fun t109 => (some t109)
set_option maxHeartbeats 8000000 in
set_option maxRecDepth 100000 in
theorem crc_Sum.calls (A0 : Option Addr) (c0 : Nat) (l0 : List Int) (r : Int) (w : World) (hr0 : Kd.C (Kd.int .u8) w A0 l0.length l0) (hc0 : l0.length ≤ c0) (h : crc_Sum.f l0 = some r) :
    Calls Tryd.prog 27 #[.slice A0 l0.length c0] w fun e w' => e = .returned (.int .u32 r) ∧ Below w.heap.size w w' := by
  have HR0 := Aside0.mk hr0
  have HC0 := Aside0.mk hc0
  clear hr0 hc0
  have HB := Aside0.mk (Below.refl w.heap.size w)
  have H : ((crc_Extend.f 0 l0).bind fun t109 => (some t109)) = some r := h
  clear h
  replace H := Option.bind_eq_some_iff.mp H
  obtain ⟨t109, A20, H⟩ := H
  replace H : (some t109) = some r := H
  have A2 := Aside0.mk A20
  clear A20
  obtain rfl := Option.some.inj H
  go_enter Tryd.func27, Tryd.ntmps27
  go_wp2_with (first | ((with_reducible refine gate_callee (f := 46) rfl ?_); refine goesL_ (some 4) rfl rfl Tryd.func46 (by kernel_rfl) rfl #[.int .u32 0, .slice A0 l0.length c0] rfl (by (try simp only [List.map_toArray, List.map_cons, List.map_nil]); first | done | rfl | (simp only [List.length_drop, List.length_take]; rfl)) ?_; (with_reducible refine (crc_Extend.calls 0 _ _ l0 t109 _ ?side1 ?side2 A2.out).mono ?_); (case side1 => repeat (first | exact HR0.out | (with_reducible refine Kd.C_alloc ?_ _) | (with_reducible refine Kd.C_drewN ?_ _) | (with_reducible refine Kd.C_drew ?_))); (case side2 => exact HC0.out); rintro e w3 ⟨rfl, hb⟩; refine ⟨_, rfl, ?_⟩; have n0_ := Aside0.mk (below_step (by repeat (first | (with_reducible first | exact HB.out | apply below_alloc | apply pw_below_drewN | apply below_drew1) | exact HB.out)) hb); clear HB; have HB := n0_; clear n0_; (try clear hb); (try clear hb2); (try clear hk); (try clear hi)))
  go_ret
  exact ⟨by first | rfl | (simp [errW_none, errW_some] <;> rfl) | (simp [*, errW_none, errW_some] <;> rfl) | (exfalso; simp only [beq_iff_eq, decide_eq_true_eq] at *; omega), by repeat (first | (with_reducible first | exact HB.out | apply below_alloc | apply pw_below_drewN | apply below_drew1) | exact HB.out)⟩

end Go.Proofs.YtokjiinlhghggaaDoor.PTel
