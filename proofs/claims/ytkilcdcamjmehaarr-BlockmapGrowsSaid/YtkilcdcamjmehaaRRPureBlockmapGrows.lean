/- A larger file has no fewer blocks of either kind; its blocks hold it and one fewer would not; for every pair of whole numbers, no condition. -/
import Derived.Test.YtkilcdcamjmehaaRRPBlockmapGrowsx1
namespace Go.Proofs.YtkilcdcamjmehaaRR.Pure
open Go.RowKit Go.Proofs.YtkilcdcamjmehaaRR.PBlockmapGrows Go.Proofs.YtkilcdcamjmehaaRRW.PrintWords Go.Proofs.YtkilcdcamjmehaaRRW.PrintLast Go.Proofs.YtkilcdcamjmehaaRRW.PrintMore
set_option linter.unusedVariables false
set_option linter.unusedSimpArgs false

theorem w_id {x : Int} (h0 : -9223372036854775808 ≤ x) (h1 : x ≤ 9223372036854775807) : wrap64 x = x := by unfold wrap64; omega
theorem wf_i64 {a : Int} (h : (Lit.int .i64 a).wf = true) : -9223372036854775808 ≤ a ∧ a ≤ 9223372036854775807 := by
  simpa [Lit.wf, IntKind.min, IntKind.max, IntKind.signed, IntKind.bits] using h
theorem wf_u8 {a : Int} (h : (Lit.int .u8 a).wf = true) : 0 ≤ a ∧ a ≤ 255 := by
  simpa [Lit.wf, IntKind.min, IntKind.max, IntKind.signed, IntKind.bits] using h
theorem wf_u32 {a : Int} (h : (Lit.int .u32 a).wf = true) : 0 ≤ a ∧ a ≤ 4294967295 := by
  simpa [Lit.wf, IntKind.min, IntKind.max, IntKind.signed, IntKind.bits] using h
theorem wf_u64 {a : Int} (h : (Lit.int .u64 a).wf = true) : 0 ≤ a ∧ a ≤ 18446744073709551615 := by
  simpa [Lit.wf, IntKind.min, IntKind.max, IntKind.signed, IntKind.bits] using h
/-- All are octets. -/
def Oct (l : List Int) : Prop := ∀ x ∈ l, 0 ≤ x ∧ x ≤ 255
theorem Oct.of_wf {l : List Int} (h : ∀ x ∈ l, (Lit.int .u8 x).wf = true) : Oct l := fun x hx => wf_u8 (h x hx)
theorem Oct.nil : Oct [] := fun _ h => by cases h
theorem Oct.append {a b : List Int} (ha : Oct a) (hb : Oct b) : Oct (a ++ b) := fun x hx => (List.mem_append.1 hx).elim (ha x) (hb x)
theorem Oct.take {a : List Int} (ha : Oct a) (n : Nat) : Oct (a.take n) := fun x hx => ha x (List.mem_of_mem_take hx)
theorem Oct.drop {a : List Int} (ha : Oct a) (n : Nat) : Oct (a.drop n) := fun x hx => ha x (List.mem_of_mem_drop hx)
theorem rd_nat (l : List Int) (k : Nat) (h : k < l.length) : rd l (k : Int) = l[k] := by
  unfold rd
  simp [List.getD_eq_getElem?_getD, h]

/-- How many indirect blocks n blocks need. -/
def more (n : Int) : Int := if n > 12 then (n - 12 + 7) / 8 + 2 else if n > 4 then 1 else 0
theorem more_mono (m n : Int) (h : m ≤ n) : more m ≤ more n := by unfold more; split <;> split <;> (try split) <;> (try split) <;> omega
theorem blocks_is (s : Int) (h0 : 0 ≤ s) (h1 : s ≤ 2432) : blockmap_Blocks.f s = some ((s + 31) / 32, more ((s + 31) / 32), 0) := by
  unfold blockmap_Blocks.f blockmap_up.f
  rw [if_neg (by omega), if_neg (by omega), if_neg (by omega), w_id (x := s + 32) (by omega) (by omega), w_id (x := s + 32 - 1) (by omega) (by omega), Int.tdiv_eq_ediv_of_nonneg (by omega), w_id (x := (s + 32 - 1) / 32) (by omega) (by omega)]
  rw [show (s + 32 - 1) / 32 = (s + 31) / 32 by omega]
  have hn : 0 ≤ (s + 31) / 32 ∧ (s + 31) / 32 ≤ 76 := by omega
  generalize (s + 31) / 32 = n at *
  simp only [Option.bind_some, more]
  by_cases h2 : n > 12
  · rw [if_pos h2, if_pos h2, if_neg (by omega)]
    simp only [Option.bind_some]
    rw [w_id (x := n - 12) (by omega) (by omega), w_id (x := n - 12 + 8) (by omega) (by omega), w_id (x := n - 12 + 8 - 1) (by omega) (by omega), Int.tdiv_eq_ediv_of_nonneg (by omega), w_id (x := (n - 12 + 8 - 1) / 8) (by omega) (by omega), w_id (x := 1 + _) (by omega) (by omega), w_id (by omega) (by omega)]
    congr 2
    congr 1
    omega
  · rw [if_neg h2, if_neg h2]
    by_cases h3 : n > 4
    · rw [if_pos h3, if_pos h3]; rfl
    · rw [if_neg h3, if_neg h3]
theorem blocks_neg (s : Int) (h : s < 0) : blockmap_Blocks.f s = some (0, 0, 4) := by
  unfold blockmap_Blocks.f
  rw [if_pos h]
theorem blocks_big (s : Int) (h : 2432 < s) : blockmap_Blocks.f s = some (0, 0, 107) := by
  unfold blockmap_Blocks.f
  rw [if_neg (by omega), if_pos (by omega)]

/-- '(a % n + n) % n' lies in 0 .. n - 1. -/
theorem mod_in (a n : Int) (h0 : 0 < n) (h1 : n ≤ 4611686018427387904) : 0 ≤ Int.tmod (wrap64 ((Int.tmod a n) + n)) n ∧ Int.tmod (wrap64 ((Int.tmod a n) + n)) n < n := by
  have h1' := Int.tmod_lt_of_pos a h0
  have h2 : -n < Int.tmod a n := by
    rcases Int.le_total 0 a with h | h
    · have := Int.tmod_nonneg n h; omega
    · have := Int.neg_tmod (a := a) (b := n)
      have h3 := Int.tmod_lt_of_pos (-a) h0
      omega
  rw [w_id (by omega) (by omega)]
  have h3 := Int.tmod_lt_of_pos (Int.tmod a n + n) h0
  have h4 := Int.tmod_nonneg n (show 0 ≤ Int.tmod a n + n by omega)
  omega

theorem alive9 : undercroftlaw06_alive.f 9 = some true := by decide +kernel
theorem BlockmapGrows : undercroftlaw06_BlockmapGrows.Pure := by
  intro a b _ _
  refine ⟨9, ?_⟩
  unfold undercroftlaw06_BlockmapGrows.f
  rw [alive9]
  obtain ⟨a0, a1⟩ := mod_in a 2433 (by omega) (by omega)
  obtain ⟨b0, b1⟩ := mod_in b 2433 (by omega) (by omega)
  generalize Int.tmod (wrap64 ((Int.tmod a 2433) + 2433)) 2433 = x at *
  generalize Int.tmod (wrap64 ((Int.tmod b 2433) + 2433)) 2433 = y at *
  obtain ⟨s, hs⟩ : ∃ s, mn x y = s := ⟨_, rfl⟩
  obtain ⟨t, ht⟩ : ∃ t, mx x y = t := ⟨_, rfl⟩
  have h1 : 0 ≤ s ∧ s ≤ t ∧ t ≤ 2432 := by
    unfold mn at hs
    unfold mx at ht
    split at hs <;> split at ht <;> omega
  rw [hs, ht]
  simp only [Option.bind_some, if_true, blocks_is s (by omega) (by omega), blocks_is t (by omega) (by omega), undercroftlaw06_num.f]
  rw [w_id (x := 0 + 0) (by omega) (by omega), if_pos (by omega), if_pos (by omega), if_pos (more_mono _ _ (by omega)), w_id (x := 32 * ((s + 31) / 32)) (by omega) (by omega), if_pos (by omega)]
  by_cases h2 : (s + 31) / 32 = 0
  · rw [if_pos h2]
  · rw [if_neg h2, w_id (x := (s + 31) / 32 - 1) (by omega) (by omega), w_id (by omega) (by omega), decide_eq_true (by omega)]

end Go.Proofs.YtkilcdcamjmehaaRR.Pure
