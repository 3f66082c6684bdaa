/- A file's indirect blocks are those that its blocks' paths go through, for every size; no condition. -/
import Derived.Test.YtkilcdcamjmehaaRRPBlockmapBesidex2
namespace Go.Proofs.YtkilcdcamjmehaaRR.Pure
open Go.RowKit Go.Proofs.YtkilcdcamjmehaaRR.PBlockmapBeside Go.Proofs.YtkilcdcamjmehaaRRW.PrintWords Go.Proofs.YtkilcdcamjmehaaRRW.PrintLast Go.Proofs.YtkilcdcamjmehaaRRW.PrintMore

theorem alive400 : undercroftlaw06_alive.f 400 = some true := by decide +kernel
theorem wf_bounds {a : Int} (h : (Lit.int .i64 a).wf = true) : -9223372036854775808 ≤ a ∧ a ≤ 9223372036854775807 := by
  simpa [Lit.wf, IntKind.min, IntKind.max, IntKind.signed, IntKind.bits] using h
theorem w_id {x : Int} (h0 : -9223372036854775808 ≤ x) (h1 : x ≤ 9223372036854775807) : wrap64 x = x := by unfold wrap64; omega
/-- How many indirect blocks n blocks need. -/
def more (n : Int) : Int := if n > 12 then (n - 12 + 7) / 8 + 2 else if n > 4 then 1 else 0
theorem blocks_is (s : Int) (h0 : 0 ≤ s) (h1 : s ≤ 2432) : blockmap_Blocks.f s = some ((s + 31) / 32, more ((s + 31) / 32), 0) := by
  unfold blockmap_Blocks.f blockmap_up.f
  rw [if_neg (by omega), if_neg (by omega), if_neg (by omega), w_id (x := s + 32) (by omega) (by omega), w_id (x := s + 32 - 1) (by omega) (by omega), Int.tdiv_eq_ediv_of_nonneg (by omega), w_id (x := (s + 32 - 1) / 32) (by omega) (by omega)]
  rw [show (s + 32 - 1) / 32 = (s + 31) / 32 by omega]
  have hn : 0 ≤ (s + 31) / 32 ∧ (s + 31) / 32 ≤ 76 := by omega
  generalize (s + 31) / 32 = n at *
  simp only [Option.bind_some, more]
  by_cases h2 : n > 12
  · rw [if_pos h2, if_pos h2, if_neg (by omega)]
    simp only [Option.bind_some]
    rw [w_id (x := n - 12) (by omega) (by omega), w_id (x := n - 12 + 8) (by omega) (by omega), w_id (x := n - 12 + 8 - 1) (by omega) (by omega), Int.tdiv_eq_ediv_of_nonneg (by omega), w_id (x := (n - 12 + 8 - 1) / 8) (by omega) (by omega), w_id (x := 1 + _) (by omega) (by omega), w_id (by omega) (by omega)]
    congr 2
    congr 1
    omega
  · rw [if_neg h2, if_neg h2]
    by_cases h3 : n > 4
    · rw [if_pos h3, if_pos h3]; rfl
    · rw [if_neg h3, if_neg h3]
theorem each : ∀ n : Fin 77, undercroftlaw06_BlockmapBeside.j0 400 (n.val : Int) (more (n.val : Int)) (decide ((n.val : Int) > 76)) = some true := by decide +kernel
theorem size_in (a : Int) : 0 ≤ Int.tmod (wrap64 ((Int.tmod a 2433) + 2433)) 2433 ∧ Int.tmod (wrap64 ((Int.tmod a 2433) + 2433)) 2433 ≤ 2432 := by
  have h1 := Int.tmod_lt_of_pos a (show (0 : Int) < 2433 by omega)
  have h2 : -2433 < Int.tmod a 2433 := by
    rcases Int.le_total 0 a with h | h
    · have := Int.tmod_nonneg 2433 h; omega
    · have := Int.neg_tmod (a := a) (b := 2433)
      have h3 := Int.tmod_lt_of_pos (-a) (show (0 : Int) < 2433 by omega)
      omega
  rw [w_id (by omega) (by omega)]
  have h3 := Int.tmod_lt_of_pos (Int.tmod a 2433 + 2433) (show (0 : Int) < 2433 by omega)
  have h4 := Int.tmod_nonneg 2433 (show 0 ≤ Int.tmod a 2433 + 2433 by omega)
  omega
theorem BlockmapBeside : undercroftlaw06_BlockmapBeside.Pure := by
  intro a _
  refine ⟨400, ?_⟩
  unfold undercroftlaw06_BlockmapBeside.f
  rw [alive400]
  obtain ⟨h0, h1⟩ := size_in a
  generalize Int.tmod (wrap64 ((Int.tmod a 2433) + 2433)) 2433 = s at *
  simp only [Option.bind_some, if_true]
  rw [blocks_is s h0 h1]
  simp only [Option.bind_some, undercroftlaw06_num.f, if_true]
  have := each ⟨((s + 31) / 32).toNat, by omega⟩
  simp only [Int.toNat_of_nonneg (show 0 ≤ (s + 31) / 32 by omega)] at this
  exact this
end Go.Proofs.YtkilcdcamjmehaaRR.Pure
