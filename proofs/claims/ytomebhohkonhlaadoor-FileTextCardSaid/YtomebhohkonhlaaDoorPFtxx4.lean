-- Written by a program of this session (gen.py).
import Derived.Test.YtomebhohkonhlaaDoorPFtxx0
import Derived.Test.YtomebhohkonhlaaDoorPFtxx1
import Derived.Test.YtomebhohkonhlaaDoorPFtxx2
import Derived.Test.YtomebhohkonhlaaDoorPFtxx3
namespace Go.Proofs.YtomebhohkonhlaaDoor.PFtx
open Go.RowKit Go.Proofs.YtomebhohkonhlaaDoorW.PrintWords Go.Proofs.YtomebhohkonhlaaDoorW.PrintLast Go.Proofs.YtomebhohkonhlaaDoorW.PrintMore
open Go.Proofs.YtomebhohkonhlaaDoor.Own
attribute [local go_sem high] unary_not_u32 unary_not_u64 unary_not_u8 string_leq_ string_gtr_
attribute [local go_sem] max2_int min2_int max_two min_two max_three min_three max_four min_four   -- for this text's walks alone
set_option linter.unusedVariables false
set_option linter.unusedSimpArgs false

/-! ### file_Read: function 18 -/
def read_T15 : Bool × List (List Nat × List Nat) := (true, [([], []), ([], []), ([1], [1]), ([0, 2], [0, 2]), ([], []), ([4], [4]), ([], []), ([6], [6]), ([7], [7]), ([5, 8], [5, 8]), ([3, 9], [3, 9])])
def read_B15 : List Nat := [0, 0, 2, 7, 0, 16, 0, 64, 192, 496, 1023]
theorem read_tab15 : rtab .any (opsOf Tryd.f18 15) = read_T15 := by kernel_rfl
theorem read_bits15 : waitsOk read_T15.2 read_B15 = true := by kernel_rfl
/-- copy(v[o:], d), d not empty, wherever o. -/
theorem copy_to {W : World} {base q o m cap : Nat} {b d : List Int} {A : Option Addr} (h : Kd.R (Kd.int .u8) 5 W base (fun k => k = q) (.slice (some ⟨q, 0, none⟩) b.length cap) b) (ho : o ≤ b.length) (hC : Kd.C (Kd.int .u8) W A m d) (hm : 0 < m) :
    ∃ W', (∀ ty dc sc, (Builtin.copy_ #[25, 25] ty #[.slice (if cap = o then some ⟨q, 0, none⟩ else some ⟨q, o, none⟩) (b.length - o) dc, .slice A m sc]).run Tryd.prog W = .ok (.int .i64 ((Nat.min m (b.length - o) : Nat) : Int)) W') ∧ Kd.R (Kd.int .u8) 5 W' base (fun k => k = q) (.slice (some ⟨q, 0, none⟩) b.length cap) (b.take o ++ d.take (Nat.min m (b.length - o)) ++ b.drop (o + Nat.min m (b.length - o))) ∧ W.grownBy W' (some q) := by
  by_cases hlt : o < b.length
  · obtain ⟨cap', cur, hv, _, _, hc, _⟩ := own_parts h (by omega)
    injection hv with _ _ hv
    subst hv
    rw [if_neg (by omega)]
    exact copy_at h hlt hC hm
  · have ho2 : o = b.length := by omega
    subst ho2
    have hz : Nat.min m (b.length - b.length) = 0 := by rw [Nat.sub_self]; exact Nat.min_zero m
    rw [hz]
    obtain ⟨i0, hi0, _, hs0, _⟩ := info_parts info5
    refine ⟨W, fun ty dc sc => ?_, ?_, ⟨rfl, rfl, rfl, Nat.le_refl _, fun _ _ _ => rfl⟩⟩
    · rw [Nat.sub_self]
      exact run_copy_none W 25 25 ty 5 _ _ 0 dc m sc Tryd.underlying25 (by rw [hi0]; simp [hs0]) (Nat.min_zero m)
    · rw [List.take_length, List.take_zero, List.append_nil, Nat.add_zero, List.drop_length, List.append_nil]
      exact h
/-- One block, laid into what is read. -/
def readStep (off : Nat) (out : List Int) (b : S39) : List Int :=
  if 32 * b.f0 - (off : Int) + 32 ≤ 0 ∨ (out.length : Int) ≤ 32 * b.f0 - (off : Int) then out
  else out.take (max (32 * b.f0 - (off : Int)) 0).toNat ++ (b.f1.drop (max (-(32 * b.f0 - (off : Int))) 0).toNat).take (Nat.min (32 - (max (-(32 * b.f0 - (off : Int))) 0).toNat) (out.length - (max (32 * b.f0 - (off : Int)) 0).toNat)) ++ out.drop ((max (32 * b.f0 - (off : Int)) 0).toNat + Nat.min (32 - (max (-(32 * b.f0 - (off : Int))) 0).toNat) (out.length - (max (32 * b.f0 - (off : Int)) 0).toNat))
def readL (off : Nat) (out : List Int) (l : List S39) : List Int := l.foldl (readStep off) out
theorem readStep_len {off : Nat} {out : List Int} {b : S39} (hb : b.f1.length = 32) : (readStep off out b).length = out.length := by
  unfold readStep
  split
  · rfl
  · rename_i h
    obtain ⟨k, hk⟩ : ∃ k, k = Nat.min (32 - (max (-(32 * b.f0 - (off : Int))) 0).toNat) (out.length - (max (32 * b.f0 - (off : Int)) 0).toNat) := ⟨_, rfl⟩
    have h1 : k ≤ 32 - (max (-(32 * b.f0 - (off : Int))) 0).toNat := by rw [hk]; exact Nat.min_le_left _ _
    have h2 : k ≤ out.length - (max (32 * b.f0 - (off : Int)) 0).toNat := by rw [hk]; exact Nat.min_le_right _ _
    rw [← hk]
    simp only [List.length_append, List.length_take, List.length_drop, hb]
    omega
theorem readL_len {off : Nat} : ∀ {l : List S39} {out : List Int}, (∀ b ∈ l, b.f1.length = 32) → (readL off out l).length = out.length
  | [], _, _ => rfl
  | b :: r, out, h => by
    show (readL off (readStep off out b) r).length = _
    rw [readL_len (fun c hc => h c (List.mem_cons_of_mem _ hc)), readStep_len (h b List.mem_cons_self)]
def readR (a0 : Int) (l : List S39) (off n : Int) : List Int × Int :=
  if checkI a0 l = 0 then (if off < 0 ∨ n < 0 then ([], 4) else if a0 ≤ off then ([], 0) else (readL off.toNat (List.replicate (min n (a0 - off)).toNat 0) l, 0)) else ([], 9)
def file_Read.f (a0_0 : Int) (l0_1 : List S39) (a1 a2 : Int) : Option (List Int × Int) := some (readR a0_0 l0_1 a1 a2)
set_option maxHeartbeats 8000000 in
set_option maxRecDepth 100000 in
theorem file_Read.calls (a0_0 : Int) (A0_1 : Option Addr) (c0_1 : Nat) (l0_1 : List S39) (a1 : Int) (a2 : Int) (r1 : List Int) (r2 : Int) (w : World) (hr0_1 : Kd.C k39 w A0_1 l0_1.length l0_1) (hc0_1 : l0_1.length ≤ c0_1) (h : file_Read.f a0_0 l0_1 a1 a2 = some (r1, r2)) :
    Calls Tryd.prog 18 #[.agg #[.int .i64 a0_0, .slice A0_1 l0_1.length c0_1], .int .i64 a1, .int .i64 a2] w fun e w' => ∃ v1_ : Value, e = .returned (.tuple #[v1_, .int .i64 r2]) ∧ Kd.R (Kd.int .u8) 5 w' w.heap.size (fun _ => True) v1_ r1 ∧ Below w.heap.size w w' := by
  have hmx := hr0_1.2.1
  have hck := check_ev a0_0 l0_1 hmx _ (Nat.le_refl _)
  have HRR : Aside0 (readR a0_0 l0_1 a1 a2 = (r1, r2)) := ⟨Option.some.inj h⟩
  have hu29 := Tryd.underlying29
  have hu39 := Tryd.underlying39
  obtain ⟨gq, hgq⟩ : ∃ k, k = w.heap.size := ⟨_, rfl⟩
  obtain ⟨W0, hW0⟩ : ∃ W, W = (w.alloc (.cells #[.int .i64 a0_0, .slice A0_1 l0_1.length c0_1] 29)) := ⟨_, rfl⟩
  have hB0 : Below w.heap.size w W0 := by rw [hW0]; exact below_alloc (Below.refl _ _) _
  have HB0 := Aside0.mk hB0
  have HGB0 : Aside0 (W0.heap[gq]? = some (.cells #[.int .i64 a0_0, .slice A0_1 l0_1.length c0_1] 29 (0, 0))) := ⟨by
    rw [hW0, hgq]
    exact (MapKept.heap_alloc _ _).1⟩
  have HC0 := Aside0.mk (Kd.C_below hr0_1 hB0)
  have HCC := Aside0.mk hc0_1
  have HCK := Aside0.mk hck
  have HW0 := Aside0.mk hW0
  have HGBE := Aside0.mk hgq
  clear hr0_1 hc0_1 hck h hB0 hW0 hgq
  rcases checkI_two a0_0 l0_1 with hz | hz
  case inr =>
    have hr := HRR.out
    unfold readR at hr
    rw [if_neg (by rw [hz]; decide)] at hr
    simp only [Prod.mk.injEq] at hr
    obtain ⟨rfl, rfl⟩ := hr
    have HZ := Aside0.mk hz
    clear hz HRR
    go_enter Tryd.func18, Tryd.ntmps18
    go_wp2_with (first
      | (go_at_call 21; go_loud (rw [← HW0.out]; refine (file_Check.calls _ a0_0 A0_1 c0_1 l0_1 _ _ HC0.out HCC.out HCK.out).mono ?_; rintro e w1 ⟨rfl, hb⟩; have HB1 := Aside0.mk (below_step HB0.out hb); have HGB1 := Aside0.mk ((hb.block gq (blk_lt HGB0.out)).trans HGB0.out); have HC1 := Aside0.mk (Kd.C_below HC0.out hb); have hb10 := blk_cell HGB1.out 0; have hb11 := blk_cell HGB1.out 1; rw [HZ.out]; rw [HGBE.out] at hb10 hb11; clear hb)))
    go_ret2
    exact ⟨.slice none 0 0, rfl, Kd.R_nil _ _ _ _ _, HB1.out⟩
  case inl =>
    obtain ⟨hsz, hl76, hok⟩ := check_good hz
    have HZ := Aside0.mk hz
    have HOK := Aside0.mk hok
    have HL76 := Aside0.mk hl76
    have HSZ := Aside0.mk hsz
    have hr := HRR.out
    unfold readR at hr
    rw [if_pos hz] at hr
    clear hz hok hl76 HRR
    by_cases h1 : a1 < 0 ∨ a2 < 0
    · rw [if_pos h1] at hr
      simp only [Prod.mk.injEq] at hr
      obtain ⟨rfl, rfl⟩ := hr
      obtain ⟨M, hM⟩ : ∃ M, M = min a1 a2 := ⟨_, rfl⟩
      have hmn : (if a2 < a1 then a2 else a1) = M := by rw [hM]; split <;> omega
      have hd1 : decide (M < 0) = true := decide_eq_true (by omega)
      clear h1 hM hsz
      go_enter Tryd.func18, Tryd.ntmps18
      go_wp2_with (first
        | (go_at_call 21; go_loud (rw [← HW0.out]; refine (file_Check.calls _ a0_0 A0_1 c0_1 l0_1 _ _ HC0.out HCC.out HCK.out).mono ?_; rintro e w1 ⟨rfl, hb⟩; have HB1 := Aside0.mk (below_step HB0.out hb); have HGB1 := Aside0.mk ((hb.block gq (blk_lt HGB0.out)).trans HGB0.out); have HC1 := Aside0.mk (Kd.C_below HC0.out hb); have hb10 := blk_cell HGB1.out 0; have hb11 := blk_cell HGB1.out 1; rw [HZ.out]; rw [HGBE.out] at hb10 hb11; clear hb)))
      go_ret2
      exact ⟨.slice none 0 0, rfl, Kd.R_nil _ _ _ _ _, HB1.out⟩
    · rw [if_neg h1] at hr
      obtain ⟨M, hM⟩ : ∃ M, M = min a1 a2 := ⟨_, rfl⟩
      have hmn : (if a2 < a1 then a2 else a1) = M := by rw [hM]; split <;> omega
      have hd1 : decide (M < 0) = false := decide_eq_false (by omega)
      by_cases h2 : a0_0 ≤ a1
      · rw [if_pos h2] at hr
        simp only [Prod.mk.injEq] at hr
        obtain ⟨rfl, rfl⟩ := hr
        have hd2 : decide (a0_0 ≤ a1) = true := decide_eq_true h2
        clear h1 h2 hM hsz
        go_enter Tryd.func18, Tryd.ntmps18
        go_wp2_with (first
          | (go_at_call 21; go_loud (rw [← HW0.out]; refine (file_Check.calls _ a0_0 A0_1 c0_1 l0_1 _ _ HC0.out HCC.out HCK.out).mono ?_; rintro e w1 ⟨rfl, hb⟩; have HB1 := Aside0.mk (below_step HB0.out hb); have HGB1 := Aside0.mk ((hb.block gq (blk_lt HGB0.out)).trans HGB0.out); have HC1 := Aside0.mk (Kd.C_below HC0.out hb); have hb10 := blk_cell HGB1.out 0; have hb11 := blk_cell HGB1.out 1; rw [HZ.out]; rw [HGBE.out] at hb10 hb11; clear hb)))
        go_ret2
        exact ⟨.slice none 0 0, rfl, Kd.R_nil _ _ _ _ _, HB1.out⟩
      · rw [if_neg h2] at hr
        simp only [Prod.mk.injEq] at hr
        obtain ⟨rfl, rfl⟩ := hr
        have hd2 : decide (a0_0 ≤ a1) = false := decide_eq_false h2
        obtain ⟨off, hoff⟩ : ∃ o : Nat, a1 = (o : Int) := ⟨a1.toNat, by omega⟩
        subst hoff
        obtain ⟨m, hm⟩ : ∃ m : Nat, min a2 (a0_0 - (off : Int)) = (m : Int) := ⟨(min a2 (a0_0 - (off : Int))).toNat, by omega⟩
        have hml : m ≤ 2432 := by omega
        have hol : off ≤ 2432 := by omega
        obtain ⟨Q, hQ⟩ : ∃ Q, Q = a0_0 - (off : Int) := ⟨_, rfl⟩
        have hwq : wrap64 (a0_0 - (off : Int)) = Q := by rw [hQ]; unfold wrap64; omega
        have hmm : (if Q < a2 then Q else a2) = (m : Int) := by rw [← hm, hQ]; split <;> omega
        rw [hm, Int.toNat_natCast, Int.toNat_natCast]
        have HML := Aside0.mk hml
        have HOL := Aside0.mk hol
        clear h1 h2 hM hsz hm hQ
        go_enter Tryd.func18, Tryd.ntmps18
        go_wp2_with (first
          | (go_at_call 21; go_loud (rw [← HW0.out]; refine (file_Check.calls _ a0_0 A0_1 c0_1 l0_1 _ _ HC0.out HCC.out HCK.out).mono ?_; rintro e w1 ⟨rfl, hb⟩; have HB1 := Aside0.mk (below_step HB0.out hb); have HGB1 := Aside0.mk ((hb.block gq (blk_lt HGB0.out)).trans HGB0.out); have HC1 := Aside0.mk (Kd.C_below HC0.out hb); have hb10 := blk_cell HGB1.out 0; have hb11 := blk_cell HGB1.out 1; rw [HZ.out]; rw [HGBE.out] at hb10 hb11; clear hb))
          | ((with_reducible refine gate_dst (N := 33) rfl ?_); go_loud (refine Kd.R_make (Kd.int .u8) (w0 := w1) w1.heap.size 5 rfl (N := 33) rfl 25 _ _ rfl (m : Int) rfl rfl Tryd.underlying25 (.int .u8 0) 1 info5 rfl (by decide) (by omega) 0 (ok := fun _ => True) (okp := fun _ => True) rfl (fun _ hk => hk) trivial (by omega) (by have h_ := HML.out; omega) (Below.refl _ _) (Nat.le_refl _) ?_; intro v2 w2 ho hb _ hnew; have HO2 := Aside0.mk ho; have HB2 := Aside0.mk hb; have HGB2 := Aside0.mk ((hb.block gq (blk_lt HGB1.out)).trans HGB1.out); have HNEW := Aside0.mk hnew; have hb20 := blk_cell HGB2.out 0; have hb21 := blk_cell HGB2.out 1; rw [HGBE.out] at hb20 hb21; clear ho hb hnew hb10 hb11)))
        have hv2 : ∃ q cap, v2 = .slice (some ⟨q, 0, none⟩) m cap := by
          obtain ⟨_, inner, ho, _⟩ := HO2.out
          obtain ⟨b_, hb_, _⟩ := HNEW.out
          rcases ho.2 with ⟨rfl, _⟩ | ⟨q, cap, cur, rfl, _⟩
          · cases hb_
          · exact ⟨q, cap, by rw [List.length_replicate]; rfl⟩
        obtain ⟨q, cap, rfl⟩ := hv2
        have HR2 : Aside0 (Kd.R (Kd.int .u8) 5 w2 w1.heap.size (fun k => k = q) (.slice (some ⟨q, 0, none⟩) m cap) (List.replicate m 0)) := ⟨by
          obtain ⟨h0, inner, ho, hr⟩ := HO2.out
          exact ⟨fun k hk => by simp [Value.ownBlock] at hk; exact hk.symm, inner, ho, hr.imp_ (fun _ _ hp => hp)⟩⟩
        have HC2 := Aside0.mk (Kd.C_below HC1.out HB2.out)
        have hl76 := HL76.out
        clear HO2 HNEW hb20 hb21 hmn hmm hwq hd1 hd2
        go_loopw [37] (fun v37 W => ∃ j : Nat, j ≤ l0_1.length ∧ v37 = .int .i64 (j : Int) ∧ Aside0 (Kd.R (Kd.int .u8) 5 W w1.heap.size (fun k => k = q) (.slice (some ⟨q, 0, none⟩) m cap) (readL off (List.replicate m 0) (l0_1.take j))) ∧ Aside0 (Below w1.heap.size w1 W)) (fun v37 _ => l0_1.length - (intOf v37).toNat)
        case atStart => exact ⟨0, Nat.zero_le _, rfl, HR2, HB2⟩
        case round =>
          obtain ⟨j, hj, rfl, HR, HB⟩ := hrel
          clear HR2 HB2 HC2
          by_cases hlt : j < l0_1.length
          · have hd : decide ((j : Int) < (l0_1.length : Int)) = true := decide_eq_true (by omega)
            have hd2 : decide (j < l0_1.length) = true := decide_eq_true hlt
            obtain ⟨ad, A1, c1, e1, hx0, hx1, hxl, hxc⟩ := at_T39 HC1.out (j : Int) (by omega) (by omega)
            subst e1
            have hrd : rd_T39 l0_1 (j : Int) = l0_1[j] := by
              unfold rd_T39
              rw [Int.toNat_natCast, List.getD_eq_getElem?_getD, List.getElem?_eq_getElem hlt]
              rfl
            have hmem : l0_1[j] ∈ l0_1 := List.getElem_mem hlt
            have htk : l0_1.take (j + 1) = l0_1.take j ++ [l0_1[j]] := by rw [List.take_add_one, List.getElem?_eq_getElem hlt]; rfl
            have hok := HOK.out _ hmem
            rw [hrd] at hx0 hx1 hxl hxc
            clear hrd hmem
            generalize l0_1[j] = x at *
            obtain ⟨x0, x1⟩ := x
            simp only at hx0 hx1 hxl hxc hok
            obtain ⟨hok1, hok2, hok3⟩ := hok
            rw [hok3] at hx1 hxl hxc
            replace hx0 := (HB.out.cell (World.block_lt_of_cell? w1 _ hx0)).trans hx0
            replace hx1 := (HB.out.cell (World.block_lt_of_cell? w1 _ hx1)).trans hx1
            rw [Int.toNat_natCast] at hx0 hx1
            obtain ⟨T, hT⟩ : ∃ T, T = 32 * x0 - (off : Int) := ⟨_, rfl⟩
            obtain ⟨Y, hY⟩ : ∃ Y, Y = T + 32 := ⟨_, rfl⟩
            have hol := HOL.out
            have hml := HML.out
            have hrl : (readL off (List.replicate m 0) (l0_1.take j)).length = m := by
              rw [readL_len (fun b hb => (HOK.out b (List.mem_of_mem_take hb)).2.2), List.length_replicate]
            have hstep : readL off (List.replicate m 0) (l0_1.take (j + 1)) = readStep off (readL off (List.replicate m 0) (l0_1.take j)) ⟨x0, x1⟩ := by
              rw [htk]
              unfold readL
              rw [List.foldl_append]
              rfl
            have HST := Aside0.mk hstep
            have HRL := Aside0.mk hrl
            have HXC := Aside0.mk (Kd.C_below hxc HB.out)
            have HXL := Aside0.mk hxl
            have HJ := Aside0.mk hlt
            have H32 := Aside0.mk hok3
            have HWJ := Aside0.mk (wrap_succ (j := j) (by omega))
            have HT := Aside0.mk hT
            have hcase : (Y ≤ 0) ∨ (¬ Y ≤ 0 ∧ (m : Int) ≤ T) ∨ (¬ Y ≤ 0 ∧ ¬ (m : Int) ≤ T) := by omega
            have h32x : x0 < 76 ∧ 0 ≤ x0 := ⟨hok2, hok1⟩
            rcases hcase with hY0 | ⟨hY0, hT0⟩ | ⟨hY0, hT0⟩
            · have HST2 : Aside0 (readL off (List.replicate m 0) (l0_1.take (j + 1)) = readL off (List.replicate m 0) (l0_1.take j)) := ⟨by
                rw [HST.out]
                unfold readStep
                rw [if_pos (.inl (by simp only; omega))]⟩
              have e1 : wrap64 (32 * x0) = 32 * x0 := by unfold wrap64; omega
              have e2 : wrap64 (32 * x0 - (off : Int)) = T := by rw [hT]; unfold wrap64; omega
              have e3 : wrap64 (T + 32) = Y := by rw [hY]; unfold wrap64; omega
              have c1_ : decide (Y ≤ 0) = true := decide_eq_true hY0
              have c2_ : (Y ≤ 0) = True := eq_true hY0
              clear hT hY hY0 hrl hstep hxl hxc hok1 hok2 hok3 htk hol hml hl76 h32x HST
              go_wp2
              refine ⟨⟨j + 1, HJ.out, by first | rw [HWJ.out] | rfl, ⟨?_⟩, ⟨?_⟩⟩, ?_⟩
              · rw [HST2.out]
                exact Kd.R_below HR.out (below_alloc (Below.refl _ _) _)
              · exact below_step HB.out (below_alloc (Below.refl _ _) _)
              · have hjj := HJ.out
                first | (rw [HWJ.out]; simp only [intOf]; omega) | (simp only [intOf]; omega)
            · have HST2 : Aside0 (readL off (List.replicate m 0) (l0_1.take (j + 1)) = readL off (List.replicate m 0) (l0_1.take j)) := ⟨by
                rw [HST.out]
                unfold readStep
                rw [if_pos (.inr (by simp only [hrl]; omega))]⟩
              have e1 : wrap64 (32 * x0) = 32 * x0 := by unfold wrap64; omega
              have e2 : wrap64 (32 * x0 - (off : Int)) = T := by rw [hT]; unfold wrap64; omega
              have e3 : wrap64 (T + 32) = Y := by rw [hY]; unfold wrap64; omega
              have c1_ : decide (Y ≤ 0) = false := decide_eq_false hY0
              have c2_ : (Y ≤ 0) = False := eq_false hY0
              have c3_ : decide ((m : Int) ≤ T) = true := decide_eq_true hT0
              have c4_ : ((m : Int) ≤ T) = True := eq_true hT0
              clear hT0
              clear hT hY hY0 hrl hstep hxl hxc hok1 hok2 hok3 htk hol hml hl76 h32x HST
              go_wp2
              refine ⟨⟨j + 1, HJ.out, by first | rw [HWJ.out] | rfl, ⟨?_⟩, ⟨?_⟩⟩, ?_⟩
              · rw [HST2.out]
                exact Kd.R_below HR.out (below_alloc (Below.refl _ _) _)
              · exact below_step HB.out (below_alloc (Below.refl _ _) _)
              · have hjj := HJ.out
                first | (rw [HWJ.out]; simp only [intOf]; omega) | (simp only [intOf]; omega)
            · obtain ⟨o, ho⟩ : ∃ o : Nat, o = (max T 0).toNat := ⟨_, rfl⟩
              obtain ⟨s, hs⟩ : ∃ s : Nat, s = (max (-T) 0).toNat := ⟨_, rfl⟩
              obtain ⟨N1, hN1⟩ : ∃ N1, N1 = -T := ⟨_, rfl⟩
              have hom : o ≤ m := by omega
              have hs32 : s ≤ 31 := by omega
              have e1 : wrap64 (32 * x0) = 32 * x0 := by unfold wrap64; omega
              have e2 : wrap64 (32 * x0 - (off : Int)) = T := by rw [hT]; unfold wrap64; omega
              have e3 : wrap64 (T + 32) = Y := by rw [hY]; unfold wrap64; omega
              have e4 : wrap64 (-T) = N1 := by rw [hN1]; unfold wrap64; omega
              have e5 : (if T < 0 then 0 else T) = (o : Int) := by rw [ho]; split <;> omega
              have e6 : (if N1 < 0 then 0 else N1) = (s : Int) := by rw [hs, hN1]; split <;> omega
              have c1_ : decide (Y ≤ 0) = false := decide_eq_false hY0
              have c2_ : (Y ≤ 0) = False := eq_false hY0
              have c3_ : decide ((m : Int) ≤ T) = false := decide_eq_false hT0
              have c4_ : ((m : Int) ≤ T) = False := eq_false hT0
              obtain ⟨i0, hi0, hz0, hs0, _⟩ := info_parts info5
              have kc : ∀ W : World, (Instr.slice 25 (.slice (some ⟨q, 0, none⟩) m cap) (some (.int .i64 (o : Int))) none none).run Tryd.prog W = .ok (.slice (if cap = o then some ⟨q, 0, none⟩ else some ⟨q, o, none⟩) (m - o) (cap - o)) W := fun W => by
                have h_ := cut_from (P := Tryd.prog) 25 5 .i64 Tryd.underlying25 hi0 1 hs0 (some ⟨q, 0, none⟩) m cap (o : Int) (by omega) (by omega) W
                rw [Int.toNat_natCast, Nat.mul_one] at h_
                rw [h_]
                simp [Addr.add_lit]
              have kd : ∀ W : World, (Instr.slice 25 (.slice A1 32 c1) (some (.int .i64 (s : Int))) none none).run Tryd.prog W = .ok (.slice (if c1 = s then A1 else A1.map (·.add (s * 1))) (32 - s) (c1 - s)) W := fun W => by
                have h_ := cut_from (P := Tryd.prog) 25 5 .i64 Tryd.underlying25 hi0 1 hs0 A1 32 c1 (s : Int) (by omega) (by omega) W
                rwa [Int.toNat_natCast] at h_
              have hCd : Kd.C (Kd.int .u8) wr (if c1 = s then A1 else A1.map (·.add (s * 1))) (x1.drop s).length (x1.drop s) := by
                have h_ := HXC.out
                rw [← hok3] at h_ hxl
                exact Kd.C_drop h_ (by omega) hxl
              have hdl : (x1.drop s).length = 32 - s := by rw [List.length_drop, hok3]
              rw [hdl] at hCd
              generalize (if c1 = s then A1 else A1.map (·.add (s * 1))) = A3 at kd hCd
              obtain ⟨w4, hw4⟩ : ∃ W, W = wr.alloc (Obj.cells #[.int .i64 x0, .slice A1 32 c1] 39) := ⟨_, rfl⟩
              obtain ⟨gb, hgb⟩ : ∃ k, k = wr.heap.size := ⟨_, rfl⟩
              have hba : Below wr.heap.size wr w4.drew := by rw [hw4]; exact below_drew1 (below_alloc (Below.refl _ _) _)
              have hbx : w4.heap[gb]? = some (.cells #[.int .i64 x0, .slice A1 32 c1] 39 (0, 0)) := by rw [hw4, hgb]; exact (MapKept.heap_alloc _ _).1
              have hR4 : Kd.R (Kd.int .u8) 5 w4.drew w1.heap.size (fun k => k = q) (.slice (some ⟨q, 0, none⟩) (readL off (List.replicate m 0) (l0_1.take j)).length cap) (readL off (List.replicate m 0) (l0_1.take j)) := by
                rw [hrl]
                exact Kd.R_below HR.out hba
              obtain ⟨w7, hcp, hR7, hg7⟩ := copy_to (o := o) hR4 (by rw [hrl]; exact hom) (Kd.C_below hCd hba) (by omega)
              rw [hrl] at hcp hR7
              have hq1 : w1.heap.size ≤ q := by
                obtain ⟨_, inner, h_, _⟩ := hR4
                exact own_base h_ q rfl
              have hnb : gb ≠ q := fun e => by
                obtain ⟨_, inner, h_, _⟩ := HR.out
                have h2 := own_lt h_ q rfl
                omega
              have HR7 : Aside0 (Kd.R (Kd.int .u8) 5 w7 w1.heap.size (fun k => k = q) (.slice (some ⟨q, 0, none⟩) m cap) (readL off (List.replicate m 0) (l0_1.take (j + 1)))) := ⟨by
                rw [HST.out]
                unfold readStep
                simp only
                rw [← hT, ← ho, ← hs, if_neg (by rintro (h_ | h_) <;> omega), hrl]
                exact hR7⟩
              have HB7 : Aside0 (Below w1.heap.size w1 w7) := ⟨below_weaken (below_step HB.out hba) (Nat.le_refl _) (Below.grown (Below.refl _ _) hg7 (below_step HB.out hba).size (fun k hk => by injection hk with hk; subst hk; exact hq1))⟩
              have hs1 : w4.drew.cell? ⟨gb, 1, none⟩ = some (.slice A1 32 c1) := (blk_cell hbx 1).trans rfl
              have HS7 : Aside0 (w7.cell? ⟨gb, 1, none⟩ = some (.slice A1 32 c1)) := ⟨by
                have h_ : w7.heap[gb]? = _ := (hg7.block gb (blk_lt hbx) (fun e => hnb (Option.some.inj e))).trans hbx
                exact (blk_cell h_ 1).trans rfl⟩
              have HW4 := Aside0.mk hw4
              have HGE := Aside0.mk hgb
              clear hT hY hY0 hT0 hrl hstep hxl hxc hok1 hok2 hok3 htk hol hml hl76 h32x HST hN1 ho hs hi0 hz0 hs0 hom hs32 hCd hdl hw4 hgb hba hbx hR4 hR7 hg7 hq1 hnb
              go_wp2
              rw [← HW4.out, ← HGE.out]
              refine start_ (n := 11) (S := fun w' => w'.cell? ⟨gb, 1, none⟩ = some (.slice A1 32 c1)) (ds := []) #[false, false, false, false, false, false, false, false, false, false, false] (by kernel_rfl) rfl rfl hs1 (fun hHeld => ?_); refine with_tabW read_tab15 read_bits15 (fun HT_ HW_ => ?_)
              refine pure_ (i := 0) (N := some 54) (v := ?_) (a' := ?_) #[true, false, false, false, false, false, false, false, false, false, false] rfl rfl (any_of HT_.out (by kernel_rfl)) (fun _ _ _ h => h) (Or.inl ⟨by rfl, ?_⟩) ?_ ?_
              rotate_left
              · intro w'
                go_simp
                with_reducible rfl
              rotate_left
              · simp only [Act.put, List.setIfInBounds_toArray, List.set_cons_zero, List.set_cons_succ, i64_w, i32_w]
                rfl
              refine pure_ (i := 1) (N := some 55) (v := ?_) (a' := ?_) #[true, true, false, false, false, false, false, false, false, false, false] rfl rfl (any_of HT_.out (by kernel_rfl)) (fun _ _ _ h => h) (Or.inl ⟨by rfl, ?_⟩) ?_ ?_
              rotate_left
              · intro w'
                go_simp
                with_reducible rfl
              rotate_left
              · simp only [Act.put, List.setIfInBounds_toArray, List.set_cons_zero, List.set_cons_succ, i64_w, i32_w]
                rfl
              refine pure_ (i := 2) (N := some 56) (v := ?_) (a' := ?_) #[true, true, true, false, false, false, false, false, false, false, false] rfl rfl (any_of HT_.out (by kernel_rfl)) (fun _ _ _ h => h) (Or.inl ⟨by rfl, ?_⟩) ?_ ?_
              rotate_left
              · intro w'
                go_simp
                with_reducible rfl
              rotate_left
              · simp only [Act.put, List.setIfInBounds_toArray, List.set_cons_zero, List.set_cons_succ, i64_w, i32_w]
                rfl
              refine pure_ (i := 3) (N := some 57) (v := ?_) (a' := ?_) #[true, true, true, true, false, false, false, false, false, false, false] rfl rfl (any_of HT_.out (by kernel_rfl)) (fun _ _ _ h => h) (Or.inl ⟨by rfl, ?_⟩) ?_ ?_
              rotate_left
              · intro w'
                go_simp
                with_reducible rfl
              rotate_left
              · simp only [Act.put, List.setIfInBounds_toArray, List.set_cons_zero, List.set_cons_succ, i64_w, i32_w]
                rfl
              refine pure_ (i := 4) (N := some 58) (v := ?_) (a' := ?_) #[true, true, true, true, true, false, false, false, false, false, false] rfl rfl (any_of HT_.out (by kernel_rfl)) (fun _ _ _ h => h) (Or.inl ⟨by rfl, ?_⟩) ?_ ?_
              rotate_left
              · intro w'
                go_simp
                with_reducible rfl
              rotate_left
              · simp only [Act.put, List.setIfInBounds_toArray, List.set_cons_zero, List.set_cons_succ, i64_w, i32_w]
                rfl
              refine take_ (i := 5) (N := some 59) (v := ?_) (a' := ?_) #[true, true, true, true, true, true, false, false, false, false, false] rfl rfl (take_ofW HT_.out HW_.out (by kernel_rfl)) (fun _ _ _ h => h) (Or.inl ⟨by rfl, ?_⟩) hHeld ?_ ?_
              rotate_left
              · rintro w' s0
                go_simp
                with_reducible rfl
              rotate_left
              · simp only [Act.put, List.setIfInBounds_toArray, List.set_cons_zero, List.set_cons_succ, i64_w, i32_w]
                rfl
              refine pure_ (i := 6) (N := some 60) (v := ?_) (a' := ?_) #[true, true, true, true, true, true, true, false, false, false, false] rfl rfl (any_of HT_.out (by kernel_rfl)) (fun _ _ _ h => h) (Or.inl ⟨by rfl, ?_⟩) ?_ ?_
              rotate_left
              · intro w'
                go_simp
                with_reducible rfl
              rotate_left
              · simp only [Act.put, List.setIfInBounds_toArray, List.set_cons_zero, List.set_cons_succ, i64_w, i32_w]
                rfl
              refine pure_ (i := 7) (N := some 61) (v := ?_) (a' := ?_) #[true, true, true, true, true, true, true, true, false, false, false] rfl rfl (any_of HT_.out (by kernel_rfl)) (fun _ _ _ h => h) (Or.inl ⟨by rfl, ?_⟩) ?_ ?_
              rotate_left
              · intro w'
                go_simp
                with_reducible rfl
              rotate_left
              · simp only [Act.put, List.setIfInBounds_toArray, List.set_cons_zero, List.set_cons_succ, i64_w, i32_w]
                rfl
              refine pure_ (i := 8) (N := some 62) (v := ?_) (a' := ?_) #[true, true, true, true, true, true, true, true, true, false, false] rfl rfl (any_of HT_.out (by kernel_rfl)) (fun _ _ _ h => h) (Or.inl ⟨by rfl, ?_⟩) ?_ ?_
              rotate_left
              · intro w'
                go_simp
                with_reducible rfl
              rotate_left
              · simp only [Act.put, List.setIfInBounds_toArray, List.set_cons_zero, List.set_cons_succ, i64_w, i32_w]
                rfl
              refine pure_ (i := 9) (N := some 63) (v := ?_) (a' := ?_) #[true, true, true, true, true, true, true, true, true, true, false] rfl rfl (any_of HT_.out (by kernel_rfl)) (fun _ _ _ h => h) (Or.inl ⟨by rfl, ?_⟩) ?_ ?_
              rotate_left
              · intro w'
                go_simp
                with_reducible rfl
              rotate_left
              · simp only [Act.put, List.setIfInBounds_toArray, List.set_cons_zero, List.set_cons_succ, i64_w, i32_w]
                rfl
              refine one_ (i := 10) (N := some 64) #[true, true, true, true, true, true, true, true, true, true, true] rfl rfl (one_of HT_.out (by kernel_rfl)) (by decide) (fun K hK => ?_)
              refine step_copy_runI rfl _ _ 25 25 rfl (.slice (if cap = o then some ⟨q, 0, none⟩ else some ⟨q, o, none⟩) (m - o) (cap - o)) (.slice A3 (32 - s) (c1 - s)) (by rfl) (by rfl) (hcp _ _ _) ?_
              refine hK.out _ _ HS7.out (fun hHeld => ?_)
              clear hK K
              refine norm_ (a' := ?_) ?_ ?_
              rotate_left
              · show Act.put _ (some 64) _ = _
                simp only [Act.put, List.setIfInBounds_toArray, List.set_cons_zero, List.set_cons_succ, i64_w, i32_w]
                rfl
              refine done_ (done_of HT_.out (by kernel_rfl)) ?_
              go_wp2
              refine ⟨⟨j + 1, HJ.out, by first | rw [HWJ.out] | rfl, HR7, HB7⟩, ?_⟩
              have hjj := HJ.out
              first | (rw [HWJ.out]; simp only [intOf]; omega) | (simp only [intOf]; omega)
          · have hjN : j = l0_1.length := by omega
            have hd : decide ((j : Int) < (l0_1.length : Int)) = false := decide_eq_false (by omega)
            have hd2 : decide (j < l0_1.length) = false := decide_eq_false hlt
            go_wp2
            go_ret2
            refine ⟨.slice (some ⟨q, 0, none⟩) m cap, rfl, ?_, below_step HB1.out HB.out⟩
            rw [hjN, List.take_length] at HR
            exact Kd.R_lower (Kd.R_mono HR.out (fun _ _ => trivial)) HB1.out.size

/-! ### undercroftlaw07_num: function 13 -/
def undercroftlaw07_num.f (a0 : Int) : Option (Int) := some a0
set_option maxHeartbeats 8000000 in
set_option maxRecDepth 100000 in
theorem undercroftlaw07_num.calls (a0 : Int) (r : Int) (w : World) (h : undercroftlaw07_num.f a0 = some r) :
    Calls Tryd.prog 13 #[.int .i64 a0] w fun e w' => e = .returned (.int .i64 r) ∧ Drawn0 w w' := by
  have H : (some a0) = some r := h
  clear h
  obtain rfl := Option.some.inj H
  go_enter Tryd.func13, Tryd.ntmps13
  go_wp2
  go_ret
  exact ⟨by first | rfl | (simp; done) | (simp [*]; done) | (exfalso; simp only [beq_iff_eq, decide_eq_true_eq] at *; omega), by repeat (first | exact Drawn0.refl _ | apply Drawn0.step)⟩

/-! ### undercroftlaw07_alive: function 7 -/
/-- A constant's octet, marked: it reads as it is. -/
theorem const1_C (w : World) (x : Int) : Kd.C (Kd.int .u8) (w.alloc (.cells #[.int .u8 x] 5 (1, 2))) (some ⟨w.heap.size, 0, none⟩) 1 [x] := by
  refine ⟨rfl, by decide, fun _ => ⟨_, rfl, fun j p hp => ?_⟩⟩
  obtain ⟨hj, rfl⟩ := List.getElem?_eq_some_iff.1 hp
  have hj0 : j = 0 := by simpa using hj
  subst hj0
  refine ⟨[.int .u8 x], rfl, rfl, fun i u hu => ?_⟩
  have ha : (⟨w.heap.size, 0, none⟩ : Addr).add (0 * (Kd.int .u8).sz + i) = ⟨w.heap.size, i, none⟩ := by
    rw [Nat.zero_mul, Nat.zero_add, Addr.add_lit, Nat.zero_add]
  rw [ha, World.cell?_alloc_mark, ← Array.getElem?_toList]
  exact hu
def aliveB : List S39 := [⟨1, [0, 0, 0, 0, 0, 0, 0, 0, 120, 0, 0, 0, 0, 0, 0, 0, 0, 0, 0, 0, 0, 0, 0, 0, 0, 0, 0, 0, 0, 0, 0, 0]⟩]
theorem alive_write : file_Write.f 0 [] 40 [120] = some (41, aliveB, 0) := by kernel_rfl
theorem alive_read : file_Read.f 41 aliveB 39 9 = some ([0, 120], 0) := by kernel_rfl
def undercroftlaw07_alive.f : Option Bool := some true
set_option maxHeartbeats 8000000 in
set_option maxRecDepth 100000 in
theorem undercroftlaw07_alive.calls (r : Bool) (w : World) (h : undercroftlaw07_alive.f = some r) :
    Calls Tryd.prog 7 #[] w fun e w' => e = .returned (.bool r) ∧ Below w.heap.size w w' := by
  obtain rfl := Option.some.inj h
  clear h
  have HC0 := Aside0.mk (const1_C w 120)
  have HB0 := Aside0.mk (below_alloc (Below.refl w.heap.size w) (.cells #[.int .u8 120] 5 (1, 2)))
  have kc := fun (w : World) (C : Array Value) (n c : Nat) => Lib.run_convert_bytes_const (P := Tryd.prog) w 25 5 C n c Tryd.underlying25 Tryd.underlying5
  have hcs : ((strOfNums [0, 120]).toList == ([0, 120] : List UInt8)) = true := by decide +kernel
  have hu29 := Tryd.underlying29
  have hu39 := Tryd.underlying39
  have AW := Aside0.mk alive_write
  have AR := Aside0.mk alive_read
  go_enter Tryd.func7, Tryd.ntmps7
  go_wp2_with (first
    | (go_at_call 10; go_loud (refine (file_Write.calls 0 none 0 [] 40 (some ⟨w.heap.size, 0, none⟩) 1 [120] 41 aliveB 0 _ (Kd.C_nil _ _) (Nat.le_refl _) HC0.out (Nat.le_refl _) AW.out).mono ?_; rintro e w1 ⟨v1, rfl, ho, hb⟩; obtain ⟨A1, c1, rfl⟩ := Kd.S_slice ho; have hx1 := Kd.S_reads' ho; have HX1 := Aside0.mk hx1; have HB1 := Aside0.mk (below_step HB0.out hb); clear ho hb hx1))
    | (go_at_call 18; go_loud (have hbx0 : (w1.alloc (.cells #[.int .i64 41, .slice A1 aliveB.length c1] 29)).heap[w1.heap.size]? = some (.cells #[.int .i64 41, .slice A1 aliveB.length c1] 29 (0, 0)) := (MapKept.heap_alloc _ _).1; have hb1 := below_alloc (Below.refl w1.heap.size w1) (.cells #[.int .i64 41, .slice A1 aliveB.length c1] 29); refine (file_Read.calls 41 A1 c1 aliveB 39 9 [0, 120] 0 _ (Kd.C_below HX1.out.2.2 hb1) HX1.out.2.1 AR.out).mono ?_; rintro e w2 ⟨v2, rfl, ho, hb⟩; obtain ⟨A2, c2, rfl⟩ := Kd.R_slice ho; have HX2 := Aside0.mk (Kd.R_reads' ho); have HB2 := Aside0.mk (below_step HB1.out (below_step hb1 hb)); have hbx := (hb.block w1.heap.size (blk_lt hbx0)).trans hbx0; have HC2 := Aside0.mk (Kd.C_below HX1.out.2.2 (below_step hb1 hb)); obtain ⟨ad, B1, d1, e1, hx0, _, _, _⟩ := at_T39 HC2.out (0 : Int) (by decide) (by decide); subst e1; have hq0 := blk_cell hbx 0; have hq1 := blk_cell hbx 1; have hcv : ∀ m_ : Nat, (convert 25 9 (.slice A2 2 c2)).run Tryd.prog (w2.drewN m_) = .ok (.string (strOfNums [0, 120])) (w2.drewN m_) := fun m_ => Kd.C_string (P := Tryd.prog) (A := A2) (c := c2) Tryd.underlying25 Tryd.underlying5 Tryd.underlying9 (Kd.C_drewN HX2.out.2.2 m_); have hx0' : w2.cell? ad = some (.int .i64 1) := hx0; clear ho hb hb1 hbx hbx0 hx0))
    | (go_at_call 13; refine (undercroftlaw07_num.calls 0 0 _ rfl).mono ?_; rintro e w5 ⟨rfl, hd⟩; obtain ⟨nd, rfl⟩ := hd.out))
  go_ret
  exact ⟨rfl, pw_below_drewN HB2.out _⟩

/-! ### undercroftplain_CopyBytes: function 9 -/
def undercroftplain_CopyBytes.f (l0 : List Int) : Option (List Int) := if ([] : List Int).length + l0.length < 140737488355328 then (some (([] : List Int) ++ l0)) else (none)
set_option maxHeartbeats 8000000 in
set_option maxRecDepth 100000 in
theorem undercroftplain_CopyBytes.calls (A0 : Option Addr) (c0 : Nat) (l0 : List Int) (r : List Int) (w : World) (hr0 : Kd.C (Kd.int .u8) w A0 l0.length l0) (hc0 : l0.length ≤ c0) (h : undercroftplain_CopyBytes.f l0 = some r) :
    Calls Tryd.prog 9 #[.slice A0 l0.length c0] w fun e w' => ∃ v0_ : Value, e = .returned (v0_) ∧ Kd.R (Kd.int .u8) 5 w' w.heap.size (fun _ => True) v0_ r ∧ Below w.heap.size w w' := by
  have HR0 := Aside0.mk hr0
  have HC0 := Aside0.mk hc0
  clear hr0 hc0
  have HB := Aside0.mk (Below.refl w.heap.size w)
  have H : (if ([] : List Int).length + l0.length < 140737488355328 then (some (([] : List Int) ++ l0)) else (none)) = some r := h
  clear h
  by_cases c2 : ([] : List Int).length + l0.length < 140737488355328
  · rw [if_pos c2] at H
    have LMc2 := Aside0.mk c2
    clear c2
    obtain ⟨y125, hy125⟩ : ∃ y_ : List Int, y_ = (([] : List Int) ++ l0) := ⟨_, rfl⟩
    replace H : (some y125) = some r := by first | (rw [hy125]; with_reducible exact H) | (have H2_ := (Option.bind_some _ _).symm.trans H; rw [hy125]; with_reducible exact H2_) | (have H2_ := (Option.bind_some _ _).symm.trans H; with_reducible exact H2_) | with_reducible exact H | (rw [hy125]; exact H) | exact H
    have Ny125 := Aside0.mk hy125
    clear hy125
    obtain rfl := Option.some.inj H
    go_enter Tryd.func9, Tryd.ntmps9
    go_wp2_with (first | ((with_reducible refine gate_builtin (b := .append) (xs := #[.tmp 4, .tmp 5]) rfl ?_); at_builtin; refine Kd.R_append_rows (Kd.int .u8) (w0 := w) w.heap.size rfl (.tmp 4) (.tmp 5) 25 5 (.int .u8 0) 1 rfl Tryd.underlying25 info5 rfl (by decide) (by omega) (.slice none 0 0) ([] : List Int) l0 _ _ _ (fun _ => True) (fun _ => False) rfl rfl ?aO ?aR (fun _ _ h => h) (fun _ h => h.elim) ?aF ?aB ?aS ?aL ?_; (case aR => repeat (first | exact HR0.out | (with_reducible refine Kd.C_alloc ?_ _) | (with_reducible refine Kd.C_drewN ?_ _) | (with_reducible refine Kd.C_drew ?_))); (case aB => exact (by repeat (first | (with_reducible first | exact HB.out | apply below_alloc | apply pw_below_drewN | apply below_drew1) | exact HB.out))); (case aF => exact (fun _ _ => trivial)); (case aO => exact ((Kd.R_nil _ _ _ _ (fun _ => True)))); (case aS => exact (below_size (by repeat (first | (with_reducible first | exact HB.out | apply below_alloc | apply pw_below_drewN | apply below_drew1) | exact HB.out)))); (case aL => have := LMc2.out; omega); intro v126 w3 ho hb hg hat; rw [← Ny125.out] at ho; have n0_ := Aside0.mk (hb); have n1_ := Aside0.mk (ho); clear HB; have HB := n0_; have HO127 := n1_; clear n0_ n1_; clear ho hb hg hat))
    go_ret
    exact ⟨_, by first | rfl | (simp [errW_none, errW_some] <;> rfl) | (simp [*, errW_none, errW_some] <;> rfl) | (exfalso; simp only [beq_iff_eq, decide_eq_true_eq] at *; omega), by (with_reducible repeat (first | apply Kd.R_alloc | apply Kd.R_drewN | apply Kd.R_drew)); exact HO127.out, by repeat (first | (with_reducible first | exact HB.out | apply below_alloc | apply pw_below_drewN | apply below_drew1) | exact HB.out)⟩
  · rw [if_neg c2] at H
    exact absurd H (by simp)

/-! ### file_Truncate: function 17 -/
theorem trunc_blocks (size : Int) : ∃ x y, blockmap_Blocks.f size = some (x, y, if size < 0 then 4 else if 2432 < size then 107 else 0) := by
  obtain ⟨n, m, e, h1, h2, h3⟩ := blocks_is (sz := size)
  refine ⟨n, m, ?_⟩
  rw [h1]
  by_cases he : e = 0
  · obtain ⟨a, b, _⟩ := h2 he
    rw [if_neg (by omega), if_neg (by omega), he]
  · rcases h3 he with ⟨a, b⟩ | ⟨a, b⟩
    · rw [if_pos a, b]
    · rw [if_neg (by omega), if_pos a, b]
def truncR (a0 : Int) (l : List S39) (size : Int) : Int × List S39 × Int :=
  if checkI a0 l = 0 then (if size < 0 then (0, [], 4) else if 2432 < size then (0, [], 107) else (size, fileI (cutM (lookI l) size), 0)) else (0, [], 9)
def file_Truncate.f (a0_0 : Int) (l0_1 : List S39) (a1 : Int) : Option (Int × List S39 × Int) := some (truncR a0_0 l0_1 a1)
set_option maxHeartbeats 8000000 in
set_option maxRecDepth 100000 in
theorem file_Truncate.calls (a0_0 : Int) (A0_1 : Option Addr) (c0_1 : Nat) (l0_1 : List S39) (a1 : Int) (r1 : Int) (r2 : List S39) (r3 : Int) (w : World) (hr0_1 : Kd.C k39 w A0_1 l0_1.length l0_1) (hc0_1 : l0_1.length ≤ c0_1) (h : file_Truncate.f a0_0 l0_1 a1 = some (r1, r2, r3)) :
    Calls Tryd.prog 17 #[.agg #[.int .i64 a0_0, .slice A0_1 l0_1.length c0_1], .int .i64 a1] w fun e w' => ∃ v1_ : Value, e = .returned (.tuple #[.agg #[.int .i64 r1, v1_], .int .i64 r3]) ∧ Kd.S k39 39 w' w.heap.size (fun _ => True) v1_ r2 ∧ Below w.heap.size w w' := by
  have hmx := hr0_1.2.1
  have hck := check_ev a0_0 l0_1 hmx _ (Nat.le_refl _)
  have HRR : Aside0 (truncR a0_0 l0_1 a1 = (r1, r2, r3)) := ⟨Option.some.inj h⟩
  have hu29 := Tryd.underlying29
  obtain ⟨gb, hgb⟩ : ∃ k, k = w.heap.size := ⟨_, rfl⟩
  obtain ⟨gr, hgr⟩ : ∃ k, k = w.heap.size + 1 := ⟨_, rfl⟩
  obtain ⟨W0, hW0⟩ : ∃ W, W = (w.alloc (.cells #[.int .i64 a0_0, .slice A0_1 l0_1.length c0_1] 29)).alloc (.cells #[.int .i64 0, .slice none 0 0] 29) := ⟨_, rfl⟩
  have hB0 : Below w.heap.size w W0 := by rw [hW0]; exact below_alloc (below_alloc (Below.refl _ _) _) _
  have HB0 := Aside0.mk hB0
  have HGB0 : Aside0 (W0.heap[gb]? = some (.cells #[.int .i64 a0_0, .slice A0_1 l0_1.length c0_1] 29 (0, 0))) := ⟨by
    rw [hW0, hgb]
    exact (Below.heap_alloc _ _ _ (by simp)).trans (MapKept.heap_alloc _ _).1⟩
  have HGR0 : Aside0 (W0.heap[gr]? = some (.cells #[.int .i64 0, .slice none 0 0] 29 (0, 0))) := ⟨by
    have h1 := (MapKept.heap_alloc (w.alloc (.cells #[.int .i64 a0_0, .slice A0_1 l0_1.length c0_1] 29)) (.cells #[.int .i64 0, .slice none 0 0] 29)).1
    have e1 : (w.alloc (.cells #[.int .i64 a0_0, .slice A0_1 l0_1.length c0_1] 29)).heap.size = w.heap.size + 1 := by simp
    rw [e1] at h1
    rw [hW0, hgr]
    exact h1⟩
  have HC0 := Aside0.mk (Kd.C_below hr0_1 hB0)
  have HCC := Aside0.mk hc0_1
  have HCK := Aside0.mk hck
  have HLE : Aside0 (w.heap.size ≤ gr) := ⟨by rw [hgr]; exact Nat.le_succ _⟩
  have HW0 := Aside0.mk hW0
  have HGBE := Aside0.mk hgb
  have HGRE := Aside0.mk hgr
  clear hr0_1 hc0_1 hck h hB0 hW0 hgb hgr
  rcases checkI_two a0_0 l0_1 with hz | hz
  case inr =>
    have hr := HRR.out
    unfold truncR at hr
    rw [if_neg (by rw [hz]; decide)] at hr
    simp only [Prod.mk.injEq] at hr
    obtain ⟨rfl, rfl, rfl⟩ := hr
    have HZ := Aside0.mk hz
    clear hz HRR
    go_enter Tryd.func17, Tryd.ntmps17
    go_wp2_with (first
      | (go_at_call 21; go_loud (rw [← HW0.out]; refine (file_Check.calls _ a0_0 A0_1 c0_1 l0_1 _ _ HC0.out HCC.out HCK.out).mono ?_; rintro e w1 ⟨rfl, hb⟩; have HB1 := Aside0.mk (below_step HB0.out hb); have HGB1 := Aside0.mk ((hb.block gb (blk_lt HGB0.out)).trans HGB0.out); have HGR1 := Aside0.mk ((hb.block gr (blk_lt HGR0.out)).trans HGR0.out); have HC1 := Aside0.mk (Kd.C_below HC0.out hb); have hb10 := blk_cell HGB1.out 0; have hb11 := blk_cell HGB1.out 1; have hr10 := blk_cell HGR1.out 0; have hr11 := blk_cell HGR1.out 1; have hrf0 := blk_frozen HGR1.out 0; have hrf1 := blk_frozen HGR1.out 1; have he1 := HZ.out; rw [HZ.out]; rw [HGBE.out] at hb10 hb11; rw [HGRE.out] at hr10 hr11 hrf0 hrf1; clear hb)))
    rw [← HGRE.out]
    have HRB : Aside0 (((w1.setCell ⟨gr, 0, none⟩ (.int .i64 0)).setCell ⟨gr, 1, none⟩ (.slice none 0 0)).heap[gr]? = some (.cells #[.int .i64 0, .slice none 0 0] 29 (0, 0))) := ⟨by
      refine blk_put (cs := #[.int .i64 0, .slice none 0 0]) ?_ 1 _ rfl
      refine blk_put (cs := #[.int .i64 0, .slice none 0 0]) ?_ 0 _ rfl
      exact HGR1.out⟩
    have HBE := Aside0.mk (below_set (below_set HB1.out HLE.out (j := 0) (v := .int .i64 0)) HLE.out (j := 1) (v := .slice none 0 0))
    refine bodyPost_ret (results_ct rfl _ _ gr 29 #[.int .i64 0, .slice none 0 0] (0, 0) _ rfl HRB.out Tryd.underlying29 rfl (by kernel_rfl)) rfl ?_
    exact ⟨.slice none 0 0, rfl, Kd.S_nil _ _ _ _ _, HBE.out⟩
  case inl =>
    obtain ⟨hsz, hl76, hok⟩ := check_good hz
    have HZ := Aside0.mk hz
    have HOK := Aside0.mk hok
    have HL76 := Aside0.mk hl76
    have HSZ := Aside0.mk hsz
    have hr := HRR.out
    unfold truncR at hr
    rw [if_pos hz] at hr
    obtain ⟨xs, ys, hbl⟩ := trunc_blocks a1
    clear hz hok hl76 hsz HRR
    by_cases h1 : a1 < 0
    · rw [if_pos h1] at hr hbl
      simp only [Prod.mk.injEq] at hr
      obtain ⟨rfl, rfl, rfl⟩ := hr
      have HBL := Aside0.mk hbl
      clear h1 hbl
      go_enter Tryd.func17, Tryd.ntmps17
      go_wp2_with (first
        | (go_at_call 21; go_loud (rw [← HW0.out]; refine (file_Check.calls _ a0_0 A0_1 c0_1 l0_1 _ _ HC0.out HCC.out HCK.out).mono ?_; rintro e w1 ⟨rfl, hb⟩; have HB1 := Aside0.mk (below_step HB0.out hb); have HGB1 := Aside0.mk ((hb.block gb (blk_lt HGB0.out)).trans HGB0.out); have HGR1 := Aside0.mk ((hb.block gr (blk_lt HGR0.out)).trans HGR0.out); have HC1 := Aside0.mk (Kd.C_below HC0.out hb); have hb10 := blk_cell HGB1.out 0; have hb11 := blk_cell HGB1.out 1; have hr10 := blk_cell HGR1.out 0; have hr11 := blk_cell HGR1.out 1; have hrf0 := blk_frozen HGR1.out 0; have hrf1 := blk_frozen HGR1.out 1; have he1 := HZ.out; rw [HZ.out]; rw [HGBE.out] at hb10 hb11; rw [HGRE.out] at hr10 hr11 hrf0 hrf1; clear hb))
        | (go_at_call 28; go_loud (refine (blockmap_Blocks.calls _ _ _ _ _ HBL.out).mono ?_; rintro e wq ⟨rfl, hd⟩; obtain ⟨nd, hwq⟩ := hd.out; have hb : Below w1.heap.size w1 wq := (by rw [hwq]; exact pw_below_drewN (Below.refl _ _) nd); have HB2 := Aside0.mk (below_step HB1.out hb); have HGB2 := Aside0.mk ((hb.block gb (blk_lt HGB1.out)).trans HGB1.out); have HGR2 := Aside0.mk ((hb.block gr (blk_lt HGR1.out)).trans HGR1.out); have HC2 := Aside0.mk (Kd.C_below HC1.out hb); have hb20 := blk_cell HGB2.out 0; have hb21 := blk_cell HGB2.out 1; have hr20 := blk_cell HGR2.out 0; have hr21 := blk_cell HGR2.out 1; have hqf0 := blk_frozen HGR2.out 0; have hqf1 := blk_frozen HGR2.out 1; rw [HGBE.out] at hb20 hb21; rw [HGRE.out] at hr20 hr21 hqf0 hqf1; clear hb hwq hd hb10 hb11 hr10 hr11 hrf0 hrf1)))
      rw [← HGRE.out]
      have HRB : Aside0 (((wq.setCell ⟨gr, 0, none⟩ (.int .i64 0)).setCell ⟨gr, 1, none⟩ (.slice none 0 0)).heap[gr]? = some (.cells #[.int .i64 0, .slice none 0 0] 29 (0, 0))) := ⟨by
        refine blk_put (cs := #[.int .i64 0, .slice none 0 0]) ?_ 1 _ rfl
        refine blk_put (cs := #[.int .i64 0, .slice none 0 0]) ?_ 0 _ rfl
        exact HGR2.out⟩
      have HBE := Aside0.mk (below_set (below_set HB2.out HLE.out (j := 0) (v := .int .i64 0)) HLE.out (j := 1) (v := .slice none 0 0))
      refine bodyPost_ret (results_ct rfl _ _ gr 29 #[.int .i64 0, .slice none 0 0] (0, 0) _ rfl HRB.out Tryd.underlying29 rfl (by kernel_rfl)) rfl ?_
      exact ⟨.slice none 0 0, rfl, Kd.S_nil _ _ _ _ _, HBE.out⟩
    · rw [if_neg h1] at hr hbl
      by_cases h2 : 2432 < a1
      · rw [if_pos h2] at hr hbl
        simp only [Prod.mk.injEq] at hr
        obtain ⟨rfl, rfl, rfl⟩ := hr
        have HBL := Aside0.mk hbl
        clear h1 h2 hbl
        go_enter Tryd.func17, Tryd.ntmps17
        go_wp2_with (first
          | (go_at_call 21; go_loud (rw [← HW0.out]; refine (file_Check.calls _ a0_0 A0_1 c0_1 l0_1 _ _ HC0.out HCC.out HCK.out).mono ?_; rintro e w1 ⟨rfl, hb⟩; have HB1 := Aside0.mk (below_step HB0.out hb); have HGB1 := Aside0.mk ((hb.block gb (blk_lt HGB0.out)).trans HGB0.out); have HGR1 := Aside0.mk ((hb.block gr (blk_lt HGR0.out)).trans HGR0.out); have HC1 := Aside0.mk (Kd.C_below HC0.out hb); have hb10 := blk_cell HGB1.out 0; have hb11 := blk_cell HGB1.out 1; have hr10 := blk_cell HGR1.out 0; have hr11 := blk_cell HGR1.out 1; have hrf0 := blk_frozen HGR1.out 0; have hrf1 := blk_frozen HGR1.out 1; have he1 := HZ.out; rw [HZ.out]; rw [HGBE.out] at hb10 hb11; rw [HGRE.out] at hr10 hr11 hrf0 hrf1; clear hb))
          | (go_at_call 28; go_loud (refine (blockmap_Blocks.calls _ _ _ _ _ HBL.out).mono ?_; rintro e wq ⟨rfl, hd⟩; obtain ⟨nd, hwq⟩ := hd.out; have hb : Below w1.heap.size w1 wq := (by rw [hwq]; exact pw_below_drewN (Below.refl _ _) nd); have HB2 := Aside0.mk (below_step HB1.out hb); have HGB2 := Aside0.mk ((hb.block gb (blk_lt HGB1.out)).trans HGB1.out); have HGR2 := Aside0.mk ((hb.block gr (blk_lt HGR1.out)).trans HGR1.out); have HC2 := Aside0.mk (Kd.C_below HC1.out hb); have hb20 := blk_cell HGB2.out 0; have hb21 := blk_cell HGB2.out 1; have hr20 := blk_cell HGR2.out 0; have hr21 := blk_cell HGR2.out 1; have hqf0 := blk_frozen HGR2.out 0; have hqf1 := blk_frozen HGR2.out 1; rw [HGBE.out] at hb20 hb21; rw [HGRE.out] at hr20 hr21 hqf0 hqf1; clear hb hwq hd hb10 hb11 hr10 hr11 hrf0 hrf1)))
        rw [← HGRE.out]
        have HRB : Aside0 (((wq.setCell ⟨gr, 0, none⟩ (.int .i64 0)).setCell ⟨gr, 1, none⟩ (.slice none 0 0)).heap[gr]? = some (.cells #[.int .i64 0, .slice none 0 0] 29 (0, 0))) := ⟨by
          refine blk_put (cs := #[.int .i64 0, .slice none 0 0]) ?_ 1 _ rfl
          refine blk_put (cs := #[.int .i64 0, .slice none 0 0]) ?_ 0 _ rfl
          exact HGR2.out⟩
        have HBE := Aside0.mk (below_set (below_set HB2.out HLE.out (j := 0) (v := .int .i64 0)) HLE.out (j := 1) (v := .slice none 0 0))
        refine bodyPost_ret (results_ct rfl _ _ gr 29 #[.int .i64 0, .slice none 0 0] (0, 0) _ rfl HRB.out Tryd.underlying29 rfl (by kernel_rfl)) rfl ?_
        exact ⟨.slice none 0 0, rfl, Kd.S_nil _ _ _ _ _, HBE.out⟩
      · rw [if_neg h2] at hr hbl
        simp only [Prod.mk.injEq] at hr
        obtain ⟨rfl, rfl, rfl⟩ := hr
        have HBL := Aside0.mk hbl
        have HA : Aside0 (0 ≤ a1 ∧ a1 ≤ 2432) := ⟨by omega, by omega⟩
        clear h1 h2 hbl
        go_enter Tryd.func17, Tryd.ntmps17
        go_wp2_with (first
          | (go_at_call 21; go_loud (rw [← HW0.out]; refine (file_Check.calls _ a0_0 A0_1 c0_1 l0_1 _ _ HC0.out HCC.out HCK.out).mono ?_; rintro e w1 ⟨rfl, hb⟩; have HB1 := Aside0.mk (below_step HB0.out hb); have HGB1 := Aside0.mk ((hb.block gb (blk_lt HGB0.out)).trans HGB0.out); have HGR1 := Aside0.mk ((hb.block gr (blk_lt HGR0.out)).trans HGR0.out); have HC1 := Aside0.mk (Kd.C_below HC0.out hb); have hb10 := blk_cell HGB1.out 0; have hb11 := blk_cell HGB1.out 1; have hr10 := blk_cell HGR1.out 0; have hr11 := blk_cell HGR1.out 1; have hrf0 := blk_frozen HGR1.out 0; have hrf1 := blk_frozen HGR1.out 1; have he1 := HZ.out; rw [HZ.out]; rw [HGBE.out] at hb10 hb11; rw [HGRE.out] at hr10 hr11 hrf0 hrf1; clear hb))
          | (go_at_call 28; go_loud (refine (blockmap_Blocks.calls _ _ _ _ _ HBL.out).mono ?_; rintro e wq ⟨rfl, hd⟩; obtain ⟨nd, hwq⟩ := hd.out; have hb : Below w1.heap.size w1 wq := (by rw [hwq]; exact pw_below_drewN (Below.refl _ _) nd); have HB2 := Aside0.mk (below_step HB1.out hb); have HGB2 := Aside0.mk ((hb.block gb (blk_lt HGB1.out)).trans HGB1.out); have HGR2 := Aside0.mk ((hb.block gr (blk_lt HGR1.out)).trans HGR1.out); have HC2 := Aside0.mk (Kd.C_below HC1.out hb); have hb20 := blk_cell HGB2.out 0; have hb21 := blk_cell HGB2.out 1; have hr20 := blk_cell HGR2.out 0; have hr21 := blk_cell HGR2.out 1; have hqf0 := blk_frozen HGR2.out 0; have hqf1 := blk_frozen HGR2.out 1; rw [HGBE.out] at hb20 hb21; rw [HGRE.out] at hr20 hr21 hqf0 hqf1; clear hb hwq hd hb10 hb11 hr10 hr11 hrf0 hrf1))
          | (go_at_call 22; go_loud (refine (look_calls a0_0 A0_1 c0_1 l0_1 _ HC2.out HL76.out HOK.out).mono ?_; rintro e w2 ⟨gv, rfl, hv, hb⟩; have HV3 := Aside0.mk hv; have HBV3 := Aside0.mk hb; have HB3 := Aside0.mk (below_step HB2.out hb); have HGR3 := Aside0.mk ((hb.block gr (blk_lt HGR2.out)).trans HGR2.out); clear hv hb hb20 hb21 hr20 hr21 hqf0 hqf1))
          | (go_at_call 29; go_loud (refine (cut_calls wq gv l0_1.length a0_0 (lookI l0_1) a1 _ HBV3.out HV3.out HA.out).mono ?_; rintro e w4 ⟨rfl, hv, hb⟩; have HV4 := Aside0.mk hv; have HBV4 := Aside0.mk hb; clear hv hb))
          | (go_at_call 23; go_loud (refine (file_calls wq gv _ _ _ _ HBV4.out HV4.out).mono ?_; rintro e w5 ⟨v5, rfl, hs, hb⟩; obtain ⟨Af, cf, rfl⟩ := Kd.S_slice hs; have HS5 := Aside0.mk hs; have HB5 := Aside0.mk (below_step HB2.out hb); have HGR5 := Aside0.mk ((hb.block gr (blk_lt HGR2.out)).trans HGR2.out); have hr50 := blk_cell HGR5.out 0; have hr51 := blk_cell HGR5.out 1; have hsf0 := blk_frozen HGR5.out 0; have hsf1 := blk_frozen HGR5.out 1; rw [HGRE.out] at hr50 hr51 hsf0 hsf1; clear hs hb)))
        obtain ⟨n_, hn_⟩ : ∃ n_, n_ = (fileI (cutM (lookI l0_1) a1)).length := ⟨_, rfl⟩
        have HFIN : Aside0 (Kd.S k39 39 ((w5.setCell ⟨gr, 0, none⟩ (.int .i64 (a1))).setCell ⟨gr, 1, none⟩ (.slice Af n_ cf)) w.heap.size (fun _ => True) (.slice Af n_ cf) (fileI (cutM (lookI l0_1) a1))) := ⟨by
          rw [hn_]
          exact Kd.S_lower (Kd.S_set (Kd.S_set HS5.out HGR5.out kE39 0 (.int .i64 (a1))) (blk_put HGR5.out 0 (.int .i64 (a1)) rfl) kE39 1 _) HB2.out.size⟩
        rw [← hn_]
        rw [← HGRE.out]
        have HRB : Aside0 (((w5.setCell ⟨gr, 0, none⟩ (.int .i64 (a1))).setCell ⟨gr, 1, none⟩ (.slice Af n_ cf)).heap[gr]? = some (.cells #[.int .i64 (a1), .slice Af n_ cf] 29 (0, 0))) := ⟨by
          refine blk_put (cs := #[.int .i64 (a1), .slice none 0 0]) ?_ 1 _ rfl
          refine blk_put (cs := #[.int .i64 0, .slice none 0 0]) ?_ 0 _ rfl
          exact HGR5.out⟩
        have HBE := Aside0.mk (below_set (below_set HB5.out HLE.out (j := 0) (v := .int .i64 (a1))) HLE.out (j := 1) (v := .slice Af n_ cf))
        refine bodyPost_ret (results_ct rfl _ _ gr 29 #[.int .i64 (a1), .slice Af n_ cf] (0, 0) _ rfl HRB.out Tryd.underlying29 rfl (by kernel_rfl)) rfl ?_
        exact ⟨.slice Af n_ cf, rfl, HFIN.out, HBE.out⟩

/-! ### undercroftplain_SameBytes: function 19 -/
def undercroftplain_SameBytes.l0 : Nat → List Int → List Int → Int → Option (Bool)
  | 0, _, _, _ => none
  | k + 1, x0, x1, x5 => if x5 < (x0.length : Int) then (if 0 ≤ x5 then (if x5 < (x1.length : Int) then (if (rd x0 x5) = (rd x1 x5) then (undercroftplain_SameBytes.l0 k x0 x1 (wrap64 (x5 + 1))) else (some false)) else (none)) else (none)) else (some true)
def undercroftplain_SameBytes.f (k : Nat) (l0 : List Int) (l1 : List Int) : Option (Bool) := if (l0.length : Int) = (l1.length : Int) then (undercroftplain_SameBytes.l0 k l0 l1 0) else (some false)
theorem undercroftplain_SameBytes.mono_l : ∀ k, (∀ y0 y1 y2, LeO (undercroftplain_SameBytes.l0 k y0 y1 y2) (undercroftplain_SameBytes.l0 (k + 1) y0 y1 y2))
  | 0 => fun _ _ _ r h => by simp [undercroftplain_SameBytes.l0] at h
  | k + 1 => by
    have ih0 := undercroftplain_SameBytes.mono_l k
    · intro y0 y1 y2
      unfold undercroftplain_SameBytes.l0
      repeat' first
      | (with_reducible exact ih0 _ _ _)
      | (with_reducible exact LeO.refl _)
      | (with_reducible exact LeO.none _)
      | (with_reducible refine LeO.ite ?_ ?_)
      | (with_reducible refine LeO.bind ?_ (fun _ => ?_))
      | exact ih0 _ _ _
      | exact LeO.none _
      | refine LeO.ite ?_ ?_
      | refine LeO.bind ?_ (fun _ => ?_)
theorem undercroftplain_SameBytes.mono : ∀ a0 a1 k, LeO (undercroftplain_SameBytes.f k a0 a1) (undercroftplain_SameBytes.f (k + 1) a0 a1) := by
  intro a0 a1 k
  have ih0 := undercroftplain_SameBytes.mono_l k
  unfold undercroftplain_SameBytes.f
  repeat' first
      | (with_reducible exact ih0 _ _ _)
      | (with_reducible exact LeO.refl _)
      | (with_reducible exact LeO.none _)
      | (with_reducible refine LeO.ite ?_ ?_)
      | (with_reducible refine LeO.bind ?_ (fun _ => ?_))
      | exact ih0 _ _ _
      | exact LeO.none _
      | refine LeO.ite ?_ ?_
      | refine LeO.bind ?_ (fun _ => ?_)
set_option maxHeartbeats 8000000 in
set_option maxRecDepth 100000 in
theorem undercroftplain_SameBytes.calls (k : Nat) (A0 : Option Addr) (c0 : Nat) (l0 : List Int) (A1 : Option Addr) (c1 : Nat) (l1 : List Int) (r : Bool) (w : World) (hr0 : Kd.C (Kd.int .u8) w A0 l0.length l0) (hc0 : l0.length ≤ c0) (hr1 : Kd.C (Kd.int .u8) w A1 l1.length l1) (hc1 : l1.length ≤ c1) (h : undercroftplain_SameBytes.f k l0 l1 = some r) :
    Calls Tryd.prog 19 #[.slice A0 l0.length c0, .slice A1 l1.length c1] w fun e w' => e = .returned (.bool r) ∧ Drawn0 w w' := by
  have HR0 := Aside0.mk hr0
  have HC0 := Aside0.mk hc0
  clear hr0 hc0
  have HR1 := Aside0.mk hr1
  have HC1 := Aside0.mk hc1
  clear hr1 hc1
  have H : (if (l0.length : Int) = (l1.length : Int) then (undercroftplain_SameBytes.l0 k l0 l1 0) else (some false)) = some r := h
  clear h
  by_cases c3 : (l0.length : Int) = (l1.length : Int)
  · rw [if_pos c3] at H
    have c3b0 : ((l0.length : Int) == (l1.length : Int)) = true := beq_iff_eq.mpr c3
    have c3b1 : ((l0.length : Int) != (l1.length : Int)) = false := bne_eq_false_iff_eq.mpr c3
    have c3b2 : (l0.length == l1.length) = true := by first | simpa using c3 | (simp at c3 ⊢; omega)
    clear c3
    have H' := Aside0.mk H
    clear H
    go_enter Tryd.func19, Tryd.ntmps19
    go_wp2
    repeat (go_quiet (fail); try go_wp2)
    go_loopg [5] k (fun kq v5 w' => ∃ (x5_1 : Int), v5 = .int .i64 x5_1 ∧ Aside0 (undercroftplain_SameBytes.l0 kq l0 l1 x5_1 = some r) ∧ Aside0 (kq ≤ k) ∧ Drawn0 w w')
    case atStart => exact ⟨(0), (by first | rfl | (simp; done) | (simp [*]; done)), H', ⟨Nat.le_refl _⟩, by repeat (first | exact Drawn0.refl _ | apply Drawn0.step)⟩
    case round =>
      clear H'
      try clear c1
      try clear p2
      try clear c3
      try clear c3b0
      try clear c3b1
      try clear c3b2
      obtain ⟨x5_1, rfl, HA, HK1, ⟨m1, rfl⟩⟩ := hrel
      cases gk with
      | zero => exact absurd HA.out (by simp [undercroftplain_SameBytes.l0])
      | succ k1 =>
        have H := HA.out
        clear HA
        simp only [undercroftplain_SameBytes.l0] at H
        by_cases c4 : x5_1 < (l0.length : Int)
        · rw [if_pos c4] at H
          have c4b0 : decide (x5_1 < (l0.length : Int)) = true := decide_eq_true c4
          clear c4
          by_cases c5 : 0 ≤ x5_1
          · rw [if_pos c5] at H
            have c5b0 : decide (0 ≤ x5_1) = true := decide_eq_true c5
            clear c5
            by_cases c6 : x5_1 < (l1.length : Int)
            · rw [if_pos c6] at H
              have c6b0 : decide (x5_1 < (l1.length : Int)) = true := decide_eq_true c6
              clear c6
              by_cases c7 : (rd l0 x5_1) = (rd l1 x5_1)
              · rw [if_pos c7] at H
                have c7b0 : ((rd l0 x5_1) == (rd l1 x5_1)) = true := beq_iff_eq.mpr c7
                have c7b1 : ((rd l0 x5_1) != (rd l1 x5_1)) = false := bne_eq_false_iff_eq.mpr c7
                clear c7
                have H' := Aside0.mk H
                clear H
                have p128 : 0 ≤ (x5_1 : Int) := of_decide_eq_true (by first | (with_reducible assumption) | assumption)
                have q128 : x5_1 < (l0.length : Int) := of_decide_eq_true (by first | (with_reducible assumption) | assumption)
                obtain ⟨ad128, e128, hx128_0⟩ := Kd.at_int HR0.out x5_1 p128 q128
                cases e128
                replace p128 := eq_true p128
                replace q128 := eq_true q128
                have p129 : 0 ≤ (x5_1 : Int) := of_decide_eq_true (by first | (with_reducible assumption) | assumption)
                have q129 : x5_1 < (l1.length : Int) := of_decide_eq_true (by first | (with_reducible assumption) | assumption)
                obtain ⟨ad129, e129, hx129_0⟩ := Kd.at_int HR1.out x5_1 p129 q129
                cases e129
                replace p129 := eq_true p129
                replace q129 := eq_true q129
                go_wp2
                repeat (go_quiet (fail); try go_wp2)
                go_roundg k1
                case measure => have := HK1.out; omega
                case rel => exact ⟨(wrap64 (x5_1 + 1)), (by first | rfl | (simp; done) | (simp [*]; done)), H', ⟨by have := HK1.out; omega⟩, by repeat (first | exact Drawn0.refl _ | apply Drawn0.step)⟩
              · rw [if_neg c7] at H
                have c7b0 : ((rd l0 x5_1) == (rd l1 x5_1)) = false := beq_eq_false_iff_ne.mpr c7
                have c7b1 : ((rd l0 x5_1) != (rd l1 x5_1)) = true := bne_iff_ne.mpr c7
                obtain rfl := Option.some.inj H
                have p128 : 0 ≤ (x5_1 : Int) := of_decide_eq_true (by first | (with_reducible assumption) | assumption)
                have q128 : x5_1 < (l0.length : Int) := of_decide_eq_true (by first | (with_reducible assumption) | assumption)
                obtain ⟨ad128, e128, hx128_0⟩ := Kd.at_int HR0.out x5_1 p128 q128
                cases e128
                replace p128 := eq_true p128
                replace q128 := eq_true q128
                have p129 : 0 ≤ (x5_1 : Int) := of_decide_eq_true (by first | (with_reducible assumption) | assumption)
                have q129 : x5_1 < (l1.length : Int) := of_decide_eq_true (by first | (with_reducible assumption) | assumption)
                obtain ⟨ad129, e129, hx129_0⟩ := Kd.at_int HR1.out x5_1 p129 q129
                cases e129
                replace p129 := eq_true p129
                replace q129 := eq_true q129
                go_wp2
                repeat (go_quiet (fail); try go_wp2)
                go_ret
                exact ⟨by first | rfl | (simp; done) | (simp [*]; done) | (exfalso; simp only [beq_iff_eq, decide_eq_true_eq] at *; omega), by repeat (first | exact Drawn0.refl _ | apply Drawn0.step)⟩
            · rw [if_neg c6] at H
              exact absurd H (by simp)
          · rw [if_neg c5] at H
            exact absurd H (by simp)
        · rw [if_neg c4] at H
          have c4b0 : decide (x5_1 < (l0.length : Int)) = false := decide_eq_false c4
          clear c4
          obtain rfl := Option.some.inj H
          go_wp2
          repeat (go_quiet (fail); try go_wp2)
          go_ret
          exact ⟨by first | rfl | (simp; done) | (simp [*]; done) | (exfalso; simp only [beq_iff_eq, decide_eq_true_eq] at *; omega), by repeat (first | exact Drawn0.refl _ | apply Drawn0.step)⟩
  · rw [if_neg c3] at H
    have c3b0 : ((l0.length : Int) == (l1.length : Int)) = false := beq_eq_false_iff_ne.mpr c3
    have c3b1 : ((l0.length : Int) != (l1.length : Int)) = true := bne_iff_ne.mpr c3
    have c3b2 : (l0.length == l1.length) = false := by first | simpa using c3 | (simp at c3 ⊢; omega)
    obtain rfl := Option.some.inj H
    go_enter Tryd.func19, Tryd.ntmps19
    go_wp2
    repeat (go_quiet (fail); try go_wp2)
    go_ret
    exact ⟨by first | rfl | (simp; done) | (simp [*]; done) | (exfalso; simp only [beq_iff_eq, decide_eq_true_eq] at *; omega), by repeat (first | exact Drawn0.refl _ | apply Drawn0.step)⟩

-- NOT PRINTED: function 5 (undercroftlaw07_FileText)

end Go.Proofs.YtomebhohkonhlaaDoor.PFtx
