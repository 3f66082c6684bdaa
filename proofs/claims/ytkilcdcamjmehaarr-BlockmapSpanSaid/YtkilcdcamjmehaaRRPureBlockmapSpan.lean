/- Span tells the blocks that octets lie in, for every pair of whole numbers; no condition. -/
import Derived.Test.YtkilcdcamjmehaaRRPBlockmapSpanx1
namespace Go.Proofs.YtkilcdcamjmehaaRR.Pure
open Go.RowKit Go.Proofs.YtkilcdcamjmehaaRR.PBlockmapSpan Go.Proofs.YtkilcdcamjmehaaRRW.PrintWords Go.Proofs.YtkilcdcamjmehaaRRW.PrintLast Go.Proofs.YtkilcdcamjmehaaRRW.PrintMore

theorem alive9 : undercroftlaw06_alive.f 9 = some true := by decide +kernel
theorem wf_bounds {a : Int} (h : (Lit.int .i64 a).wf = true) : -9223372036854775808 ≤ a ∧ a ≤ 9223372036854775807 := by
  simpa [Lit.wf, IntKind.min, IntKind.max, IntKind.signed, IntKind.bits] using h
theorem w_id {x : Int} (h0 : -9223372036854775808 ≤ x) (h1 : x ≤ 9223372036854775807) : wrap64 x = x := by unfold wrap64; omega

theorem span_err1 (a b : Int) (h : a < 0 ∨ b < 0) : blockmap_Span.f 9 a b = some (0, 0, 4) := by
  unfold blockmap_Span.f
  rw [if_pos (by unfold mn; split <;> omega)]
theorem span_err2 (a b : Int) (h0 : 0 ≤ a) (h1 : 0 ≤ b) (h2 : b ≤ 9223372036854775807) (h : a > 2432 ∨ b > 2432 - a) : blockmap_Span.f 9 a b = some (0, 0, 107) := by
  unfold blockmap_Span.f
  rw [if_neg (by unfold mn; split <;> omega)]
  by_cases h3 : a > 2432
  · rw [if_pos h3]; rfl
  · rw [if_neg h3, w_id (by omega) (by omega), decide_eq_true (by omega)]; rfl
theorem span_zero (a : Int) (h0 : 0 ≤ a) (h3 : a ≤ 2432) : blockmap_Span.f 9 a 0 = some (a / 32, 0, 0) := by
  unfold blockmap_Span.f
  rw [if_neg (by unfold mn; split <;> omega), if_neg (by omega), w_id (by omega) (by omega), decide_eq_false (by omega)]
  simp only [blockmap_Span.j0, if_true]
  rw [if_neg (by simp), Int.tdiv_eq_ediv_of_nonneg h0, w_id (by omega) (by omega)]
theorem span_some (a b : Int) (h0 : 0 ≤ a) (h1 : 0 < b) (h3 : a ≤ 2432) (h : b ≤ 2432 - a) : blockmap_Span.f 9 a b = some (a / 32, (a + b + 31) / 32 - a / 32, 0) := by
  unfold blockmap_Span.f
  rw [if_neg (by unfold mn; split <;> omega), if_neg (by omega), w_id (by omega) (by omega), decide_eq_false (by omega)]
  simp only [blockmap_Span.j0]
  rw [if_neg (by simp), if_neg (by omega)]
  unfold blockmap_up.f
  rw [if_neg (by omega), w_id (x := a + b) (by omega) (by omega), w_id (x := a + b + 32) (by omega) (by omega), w_id (x := a + b + 32 - 1) (by omega) (by omega), Int.tdiv_eq_ediv_of_nonneg h0, Int.tdiv_eq_ediv_of_nonneg (by omega), w_id (x := a / 32) (by omega) (by omega)]
  simp only [Option.bind_some]
  rw [w_id (x := (a + b + 32 - 1) / 32) (by omega) (by omega), w_id (by omega) (by omega)]
  congr 2
  congr 1
  omega
theorem BlockmapSpan : undercroftlaw06_BlockmapSpan.Pure := by
  intro a b ha hb
  have ha := wf_bounds ha
  have hb := wf_bounds hb
  refine ⟨9, ?_⟩
  unfold undercroftlaw06_BlockmapSpan.f
  rw [alive9]
  simp only [Option.bind_some, if_true]
  by_cases h1 : a < 0 ∨ b < 0
  · rw [span_err1 a b h1]
    simp only [Option.bind_some, undercroftlaw06_num.f, if_true]
    rw [if_neg (by omega)]
    rcases h1 with h1 | h1
    · rw [if_pos h1]
    · by_cases h2 : a < 0
      · rw [if_pos h2]
      · rw [if_neg h2, if_pos h1]
  · by_cases h2 : a > 2432 ∨ b > 2432 - a
    · rw [span_err2 a b (by omega) (by omega) (by omega) h2]
      simp only [Option.bind_some, undercroftlaw06_num.f, if_true]
      rw [if_neg (by omega), if_neg (by omega), if_neg (by omega)]
      by_cases h3 : a > 2432
      · rw [if_pos h3]
      · rw [if_neg h3, w_id (by omega) (by omega), decide_eq_true (by omega)]
    · by_cases h3 : b = 0
      · subst h3
        rw [span_zero a (by omega) (by omega)]
        simp only [Option.bind_some, undercroftlaw06_num.f, if_true]
        rw [Int.tdiv_eq_ediv_of_nonneg (by omega), w_id (by omega) (by omega)]
        simp
      · rw [span_some a b (by omega) (by omega) (by omega) (by omega)]
        simp only [Option.bind_some, undercroftlaw06_num.f, if_true]
        rw [if_neg h3, Int.tdiv_eq_ediv_of_nonneg (by omega), w_id (x := a / 32) (by omega) (by omega), if_pos rfl, w_id (x := a + b) (by omega) (by omega), w_id (x := a + b - 1) (by omega) (by omega), Int.tdiv_eq_ediv_of_nonneg (by omega), w_id (x := (a + b - 1) / 32) (by omega) (by omega), w_id (x := a / 32 + ((a + b + 31) / 32 - a / 32)) (by omega) (by omega), w_id (by omega) (by omega)]
        simp only [Option.some.injEq, beq_iff_eq]
        omega
end Go.Proofs.YtkilcdcamjmehaaRR.Pure
