-- Written by a program of this session (mkrow.py).
import Derived.Test.YtofflfacfjkikaaRows
import Derived.Test.YtofflfacfjkikaaPClix9
import Derived.Test.YtofflfacfjkikaaInClientOthers
import Derived.Test.YtofflfacfjkikaaPureClientOthers
import Derived.WalkKit
import Derived.ProofKit
import Derived.OpenShut
import Derived.ShutString
import Derived.ChangeOld
import Derived.Below
import Derived.SizedLaws
import Derived.Carry
namespace Go.Proofs.Ytofflfacfjkikaa.clientOthers
open Go.ChangeShapes Go.WideShapes Go.ChangeAt Go.RowKit Go.Proofs.Ytofflfacfjkikaa.Rd Go.Proofs.Ytofflfacfjkikaa.PCli Go.Proofs.YtofflfacfjkikaaW.PrintWords
set_option linter.unusedVariables false
set_option linter.unusedSimpArgs false
theorem own : ownKnob Try.prog.godebug = none := by kernel_rfl
theorem laidOut : laidOutB Try.prog = true := by kernel_rfl
set_option maxRecDepth 100000 in
theorem lifted (os : Os) (started : os.Started) (H : Type) (enc : TypeId × Value → H) :
    ReturnsInHanded {} Try.checked os 5 .any (Rows.clientOthersSpec.pre6 enc Try.prog Try.f5 Rows.clientOthersRow.domain false) (Rows.clientOthersSpec.post enc Try.prog Try.f5 false true false false) := by
  refine returnsInHanded_of_change_sized (C := Try.checked) own started (by kernel_rfl) Try.func5
    (ChangeSpec.witness6 (enc := enc) (C := Try.checked) false ⟨#[], #[.slice none 0 0, .int .i64 0, .int .i64 0, .int .i64 0, .int .i64 0], []⟩ 8 (by kernel_rfl) (by kernel_rfl) (by kernel_rfl) (by kernel_rfl)) ?_
  intro W base args ds gs before hval0 hW hcnd hsz0 _
  have hsz : (DataW.weightsEach Try.prog (Try.f5.params.toList ++ Rows.clientOthersSpec.plain.varTypes Try.prog) (ds ++ gs)).all (· ≤ reachBytes) = true := hsz0
  have hval : ∀ (j : Nat) t v, Try.f5.params[j]? = some t → args[j]? = some v → Value.okWide Try.prog W .any base t v := hval0
  have hW' := hW
  obtain ⟨p, q, hA0, hV, rfl, hfz, hnd⟩ := hW
  have hA : DataW.TrodAll enc Try.prog W 0 (fun _ => true) true Try.f5.params.toList args.toList ds p := hA0
  rw [Try.params5] at hA hval hsz
  obtain ⟨v0, vs0, d0, ds0, p0, q0, hargs, rfl, rfl, h0, r0⟩ := trodAll_cons hA
  obtain ⟨v1, vs1, d1, ds1, p1, q1, rfl, rfl, rfl, h1, r1⟩ := trodAll_cons r0
  obtain ⟨v2, vs2, d2, ds2, p2, q2, rfl, rfl, rfl, h2, r2⟩ := trodAll_cons r1
  obtain ⟨v3, vs3, d3, ds3, p3, q3, rfl, rfl, rfl, h3, r3⟩ := trodAll_cons r2
  obtain ⟨v4, vs4, d4, ds4, p4, q4, rfl, rfl, rfl, h4, r4⟩ := trodAll_cons r3
  obtain ⟨rfl, rfl, rfl⟩ := trodAll_nil r4
  obtain rfl : args = #[v0, v1, v2, v3, v4] := by cases args; simp_all
  obtain ⟨rfl, rfl⟩ := trodVars_none hV
  obtain ⟨l0, hK0, hok0, hbk0⟩ := opens_param (opens_slice (B := 40) Try.underlying22 (by kernel_rfl) (by kernel_rfl) opens52) h0 hsz (j := 0) (t := 22) rfl rfl
  have lt0 : ∀ x ∈ p0, x.block < W.heap.size := by obtain ⟨m, hm⟩ := h0; exact DataW.trod_lt m _ _ _ hm
  obtain ⟨A0_, n0_, c0_, rfl⟩ := okWide_slice Try.underlying22 (hval 0 22 v0 rfl rfl)
  obtain ⟨B0, b0, hcs0, hl0, hC0⟩ := hK0
  simp only [Value.cells, List.cons.injEq, Value.slice.injEq, and_true] at hcs0
  obtain ⟨rfl, rfl, rfl⟩ := hcs0
  obtain ⟨l1, hK1, hok1, hbk1⟩ := opens_param (opens_int Try.underlying3) h1 hsz (j := 1) (t := 3) rfl rfl
  have lt1 : ∀ x ∈ p1, x.block < W.heap.size := by obtain ⟨m, hm⟩ := h1; exact DataW.trod_lt m _ _ _ hm
  obtain ⟨a1_, rfl⟩ := okWide_int Try.underlying3 (hval 1 3 v1 rfl rfl)
  have hcs1 : [_] = [_] := hK1
  simp only [List.cons.injEq, Value.int.injEq, and_true, true_and] at hcs1
  obtain rfl := hcs1
  obtain ⟨l2, hK2, hok2, hbk2⟩ := opens_param (opens_int Try.underlying3) h2 hsz (j := 2) (t := 3) rfl rfl
  have lt2 : ∀ x ∈ p2, x.block < W.heap.size := by obtain ⟨m, hm⟩ := h2; exact DataW.trod_lt m _ _ _ hm
  obtain ⟨a2_, rfl⟩ := okWide_int Try.underlying3 (hval 2 3 v2 rfl rfl)
  have hcs2 : [_] = [_] := hK2
  simp only [List.cons.injEq, Value.int.injEq, and_true, true_and] at hcs2
  obtain rfl := hcs2
  obtain ⟨l3, hK3, hok3, hbk3⟩ := opens_param (opens_int Try.underlying3) h3 hsz (j := 3) (t := 3) rfl rfl
  have lt3 : ∀ x ∈ p3, x.block < W.heap.size := by obtain ⟨m, hm⟩ := h3; exact DataW.trod_lt m _ _ _ hm
  obtain ⟨a3_, rfl⟩ := okWide_int Try.underlying3 (hval 3 3 v3 rfl rfl)
  have hcs3 : [_] = [_] := hK3
  simp only [List.cons.injEq, Value.int.injEq, and_true, true_and] at hcs3
  obtain rfl := hcs3
  obtain ⟨l4, hK4, hok4, hbk4⟩ := opens_param (opens_int Try.underlying3) h4 hsz (j := 4) (t := 3) rfl rfl
  have lt4 : ∀ x ∈ p4, x.block < W.heap.size := by obtain ⟨m, hm⟩ := h4; exact DataW.trod_lt m _ _ _ hm
  obtain ⟨a4_, rfl⟩ := okWide_int Try.underlying3 (hval 4 3 v4 rfl rfl)
  have hcs4 : [_] = [_] := hK4
  simp only [List.cons.injEq, Value.int.injEq, and_true, true_and] at hcs4
  obtain rfl := hcs4
  clear hA0 hval0 hsz0 hsz
  obtain ⟨k, hk⟩ := Pure.ClientOthers l0 _ _ _ _ hok0 hok1 hok2 hok3 hok4
  refine (undercroftlaw20_ClientOthers.calls k _ _ _ _ _ _ _ true W hC0 hl0 hk).mono fun e W' ⟨he, bel⟩ => ?_
  subst he
  exact ⟨_, rfl, _, _, _, [], _, [], hW', trodAll_mk1 (shut_bool Try.underlying4 _), (trodAll_cons_mk (Below.trod laidOut (by kernel_rfl) (of_decide_eq_true (by kernel_rfl)) h0 bel lt0) (trodAll_cons_mk (Below.trod laidOut (by kernel_rfl) (of_decide_eq_true (by kernel_rfl)) h1 bel lt1) (trodAll_cons_mk (Below.trod laidOut (by kernel_rfl) (of_decide_eq_true (by kernel_rfl)) h2 bel lt2) (trodAll_cons_mk (Below.trod laidOut (by kernel_rfl) (of_decide_eq_true (by kernel_rfl)) h3 bel lt3) (trodAll_cons_mk (Below.trod laidOut (by kernel_rfl) (of_decide_eq_true (by kernel_rfl)) h4 bel lt4) trodAll_mk0))))), rfl, bel.frame _, fun h => by cases h⟩
theorem over : Rows.clientOthersRow.holds Try.pinned (OpenSpec.ofChange Rows.clientOthersSpec) :=
  OpenClaim.holds_of_wide 5 Try.f5 rfl rfl rfl rfl rfl rfl rfl ⟨rfl, rfl, rfl, rfl, rfl⟩ rfl rfl rfl rfl rfl (by kernel_rfl) Try.func5 (by kernel_rfl)
    (of_decide_eq_true (by kernel_rfl)) (by unfold Func.isWrapper; first | (rw [if_pos (by decide +kernel)]; kernel_rfl) | (rw [if_neg (by decide +kernel)]; exact ⟨rfl, rfl⟩))
    (fun os started H enc _ => lifted os started H enc)
theorem proved : Rows.ClientOthersSaid := over
#print axioms proved
end Go.Proofs.Ytofflfacfjkikaa.clientOthers
namespace Go.Proofs.Ytofflfacfjkikaa
/-- The row, under a short name, for the claim. -/
theorem clientOthers_holds : Rows.ClientOthersSaid := clientOthers.proved
end Go.Proofs.Ytofflfacfjkikaa
