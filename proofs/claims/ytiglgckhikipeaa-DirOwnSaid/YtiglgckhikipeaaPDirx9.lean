-- Written by a program of this session (gen.py).
import Derived.Test.YtiglgckhikipeaaPDirx0
import Derived.Test.YtiglgckhikipeaaPDirx3
import Derived.Test.YtiglgckhikipeaaPDirx4
import Derived.Test.YtiglgckhikipeaaPDirx5
import Derived.Test.YtiglgckhikipeaaPDirx6
import Derived.Test.YtiglgckhikipeaaPDirx7
import Derived.Test.YtiglgckhikipeaaPDirx8
namespace Go.Proofs.Ytiglgckhikipeaa.PDir
open Go.RowKit Go.Proofs.YtiglgckhikipeaaW.PrintWords Go.Proofs.YtiglgckhikipeaaW.PrintLast Go.Proofs.YtiglgckhikipeaaW.PrintMore
open Go.Proofs.Ytiglgckhikipeaa.Own
attribute [local go_sem high] unary_not_u32 unary_not_u64 unary_not_u8 string_leq_ string_gtr_
attribute [local go_sem] max2_int min2_int max_two min_two max_three min_three max_four min_four   -- for this text's walks alone
set_option linter.unusedVariables false
set_option linter.unusedSimpArgs false

/-! ### dir_Remove: function 17 -/
section
open Go.Shelf
theorem step_append_runI {P : Program} {ops : Array Oper} {o : Oper} {a : Act} {w : World} {K : Act → World → Prop} {Q : Exit → Act → World → Prop} {E : Prop}
    (hg : o.guard = none) (d x : Operand) (dT sT : TypeId) (hop : o.op = Op.call { callee := Callee.builtin Builtin.append, args := #[d, x], argTypes := #[dT, sT] })
    (v u : Value) (hd : a.eval d = v) (hx : a.eval x = u) {v' : Value} {w' : World} (hr : (Builtin.append_ #[dT, sT] o.type #[v, u]).run P w = .ok v' w') (hK : K (a.put o.dst v') w') :
    if Region.wanted o (yielded ops a.tmps) = true then Oper.wp P o a w K Q else E := by
  have hw : Region.wanted o (yielded ops a.tmps) = true := by simp [Region.wanted, hg]
  rw [if_pos hw]
  unfold Oper.wp
  simp [execOp, hop, resolve, invoke, builtin, hd, hx, hr, Result.andThen]
  exact hK
theorem run_clear_sliceK {P : Program} (w : World) (t e ty : TypeId) (z : Value) (ht : P.underlying t = some (.slice e)) (hv : ∀ w, (zeroValue e).run P w = .ok z w) (b o n c : Nat) (hn : 0 < n) (cs : List Value) (hcs : (Builtin.zeroCells z.cells n).toList = cs)
    (h1 : ∀ v ∈ cs, v.oneCell' = true) (hc : ∀ j, j < cs.length → (w.cell? ⟨b, o + j, none⟩).isSome = true) (hf : ∀ j, j < cs.length → w.frozen? ⟨b, o + j, none⟩ = false) :
    (Builtin.clear_ #[t] ty #[.slice (some ⟨b, o, none⟩) n c]).run P w = .ok (.tuple #[]) (w.setCells b o cs) := by
  have hst := run_storeCells_cells (P := P) b o cs 0 w (by simpa using hc) (by simpa using hf) h1
  simp only [Nat.add_zero] at hst
  obtain ⟨m, rfl⟩ : ∃ m, n = m + 1 := ⟨n - 1, by omega⟩
  simp [Builtin.clear_, run_underlying ht, hv, hcs, hst]
/-- What lies behind a row's elements may be written: the row is as it was. -/
theorem R_tail {α : Type} (d : Kd α) {W : World} {base e g n c : Nat} {xs : List α} {ok : Nat → Prop} (h : d.R e W base ok (.slice (some ⟨g, 0, none⟩) n c) xs) (o : Nat) (vs : List Value) (ho : n * d.sz ≤ o) (hfit : o + vs.length ≤ c * d.sz) :
    d.R e (W.setCells g o vs) base ok (.slice (some ⟨g, 0, none⟩) n c) xs ∧ W.grownBy (W.setCells g o vs) (some g) := by
  obtain ⟨s1, s2, s3, s4⟩ := setCells_same g vs o W
  have hfar : ∀ k', k' ≠ g → (W.setCells g o vs).heap[k']? = W.heap[k']? := fun k' hk' => setCells_far vs _ k' hk'
  refine ⟨?_, ⟨s1, s2, s3, by rw [s4]; exact Nat.le_refl _, fun k' _ hk' => hfar k' (fun he => hk' (by rw [he]))⟩⟩
  obtain ⟨hn, hnc, _⟩ := Kd.R_reads' h
  subst hn
  obtain ⟨h0, inner, hown, hr⟩ := h
  rcases hown.2 with ⟨hv, _⟩ | ⟨g', cap', cur, hv, hb, hh, h3, hcm, hcs, htake⟩
  · cases hv
  injection hv with ha _ hc
  injection ha with ha
  injection ha with hg
  subst hg; subst hc
  obtain ⟨cur', k1, k2, k3⟩ := setCells_row vs o W cur hh (by omega)
  refine ⟨h0, inner, ⟨hown.1, .inr ⟨g, c, cur', rfl, hb, k1, h3, hcm, by rw [k2, hcs], ?_⟩⟩, hr.imp_ (fun p q hp => d.M_move (fun k' hk' => hfar k' (fun he => hk'.2 (by rw [he]; rfl))) hp)⟩
  rw [k3, List.append_assoc, List.take_append_of_le_length (by rw [List.length_take, Array.length_toList (xs := cur)]; omega), List.take_take, Nat.min_eq_left ho]
  exact htake
theorem zero34 (w : World) : (zeroValue 34).run Try.prog w = .ok (.agg #[.string ⟨#[]⟩, .int .i64 0]) w := by kernel_rfl
set_option maxHeartbeats 8000000 in
set_option maxRecDepth 100000 in
theorem delete34 (base : Nat) (g m cap i : Nat) (xs : List S34) (w : World) (hO : Kd.R k34 34 w base (fun _ => True) (.slice (some ⟨g, 0, none⟩) (m + 1) cap) xs) (hi : i < m + 1) (hbase : base ≤ w.heap.size) (hlen : m ≤ 1000000000000) (hcap : cap ≠ i + 1) :
    Calls Try.prog 26 #[.slice (some ⟨g, 0, none⟩) (m + 1) cap, .int .i64 i, .int .i64 ((i : Int) + 1)] w fun e w' => ∃ v1 : Value, e = .returned v1 ∧ Kd.R k34 34 w' base (fun _ => True) v1 (xs.eraseIdx i) ∧ Below base w w' := by
  obtain ⟨hn, hnc, hcm⟩ := Kd.R_reads' hO
  obtain ⟨i0, hi0, hsz⟩ := Option.map_eq_some_iff.1 info34
  have hOd : Kd.R k34 34 w.drew base (fun _ => True) (.slice (some ⟨g, 0, none⟩) (m + 1) cap) xs := hO
  obtain ⟨w1, hrun, hR1, hg1⟩ := Kd.R_delete_run (P := Try.prog) k34 (W := w.drew) base 29 29 34 i0 Try.underlying29 hi0 (by simp only [Prod.mk.injEq] at hsz; exact hsz.2.1) hOd hi rfl (cap - (i + 1))
  rw [if_neg hcap, Option.map_some, show k34.sz = 2 from rfl, Addr.add_lit, Nat.zero_add] at hrun
  have hrun : (Builtin.append_ #[29, 29] 29 #[.slice (some ⟨g, 0, none⟩) i cap, .slice (some ⟨g, (i + 1) * 2, none⟩) (m + 1 - (i + 1)) (cap - (i + 1))]).run Try.prog w.drew = .ok (.slice (some ⟨g, 0, none⟩) m cap) w1 := hrun
  have hR1 : Kd.R k34 34 w1 base (fun _ => True) (.slice (some ⟨g, 0, none⟩) m cap) (xs.eraseIdx i) := hR1
  have hsame : k34.sz = 2 := rfl
  obtain ⟨row1, hh1, hrs⟩ : ∃ row : Array Value, w1.heap[g]? = some (.cells row 34 (0, 0)) ∧ row.size = cap * 2 := by
    obtain ⟨_, inner, hown, _⟩ := hR1
    rcases hown.2 with ⟨hv, _⟩ | ⟨g', cap', cur, hv, hb, hh, h3, hcm, hcs, htake⟩
    · cases hv
    injection hv with ha _ hc
    injection ha with ha
    injection ha with hg
    subst hg; subst hc
    exact ⟨cur, hh, hcs⟩
  have hcl : ∀ ty, (Builtin.clear_ #[29] ty #[.slice (some ⟨g, m * 2, none⟩) 1 (cap - m)]).run Try.prog w1 = .ok (.tuple #[]) (w1.setCells g (m * 2) [.string ⟨#[]⟩, .int .i64 0]) := fun ty => by
    refine run_clear_sliceK w1 29 34 ty _ Try.underlying29 zero34 g (m * 2) 1 (cap - m) (by omega) [.string ⟨#[]⟩, .int .i64 0] (by simp [Builtin.zeroCells, Value.cells]; rfl) (fun v hv => by simp at hv; rcases hv with rfl | rfl <;> rfl) (fun j hj => ?_) (fun j _ => blk_frozen hh1 _)
    rw [cell_of_row _ _ _ _ _ _ hh1]
    simp only [List.length_cons, List.length_nil] at hj
    simp; omega
  obtain ⟨hR2, hg2⟩ := R_tail k34 hR1 (m * 2) [.string ⟨#[]⟩, .int .i64 0] (by rw [hsame]; omega) (by rw [hsame]; simp; omega)
  have HR2 := Aside0.mk hR2
  have HB2 := Aside0.mk ((((Below.refl base w).drew.grown hg1 hbase (fun k e => by cases e; exact Kd.R_base hO _ rfl))).grown hg2 (Nat.le_trans hbase hg1.size) (fun k e => by cases e; exact Kd.R_base hO _ rfl))
  have HRUN := Aside0.mk hrun
  have hq : ((i : Int) == (i : Int) + 1) = false := by simp; omega
  have hb1 : ¬ (cap = i) := by omega
  have hb2 : ¬ (cap = m) := by omega
  have hb3 : ¬ (m + 1 = i) := by omega
  have hb4 : (i : Int) + 1 ≤ (m : Int) + 1 := by omega
  have hb5 : (0 : Int) ≤ (i : Int) + 1 := by omega
  have htn : ((i : Int) + 1).toNat = i + 1 := by omega
  have mixed : Try.prog.follows Departure.mixedOrders = true := by kernel_rfl
  have hic : i ≤ cap := by omega
  have hjc : i + 1 ≤ cap := by omega
  have hjn : i + 1 ≤ m + 1 := by omega
  have hin : i ≤ m + 1 := by omega
  clear hrun hR1 hR2 hg1 hg2 hO hOd hn hsz hi0 hh1 hrs hsame
  go_enter Try.func26, Try.ntmps26
  go_wp2
  go_region_law_o (first
    | (refine step_append_runI rfl (.tmp 22) (.tmp 25) 29 29 rfl _ _ (by simp [Act.eval, Act.put]) (by simp [Act.eval, Act.put]) HRUN.out ?_))
  go_wp2
  go_ret
  exact ⟨_, rfl, HR2.out, HB2.out⟩
set_option maxHeartbeats 8000000 in
set_option maxRecDepth 100000 in
theorem delete34_last (base : Nat) (g m : Nat) (xs : List S34) (w : World) (hO : Kd.R k34 34 w base (fun _ => True) (.slice (some ⟨g, 0, none⟩) (m + 1) (m + 1)) xs) (hbase : base ≤ w.heap.size) (hlen : m ≤ 1000000000000) :
    Calls Try.prog 26 #[.slice (some ⟨g, 0, none⟩) (m + 1) (m + 1), .int .i64 m, .int .i64 ((m : Int) + 1)] w fun e w' => ∃ v1 : Value, e = .returned v1 ∧ Kd.R k34 34 w' base (fun _ => True) v1 (xs.eraseIdx m) ∧ Below base w w' := by
  obtain ⟨hn, hnc, hcm⟩ := Kd.R_reads' hO
  have hi : m < m + 1 := by omega
  obtain ⟨i0, hi0, hsz⟩ := Option.map_eq_some_iff.1 info34
  have hOd : Kd.R k34 34 w.drew base (fun _ => True) (.slice (some ⟨g, 0, none⟩) (m + 1) (m + 1)) xs := hO
  obtain ⟨w1, hrun, hR1, hg1⟩ := Kd.R_delete_run (P := Try.prog) k34 (W := w.drew) base 29 29 34 i0 Try.underlying29 hi0 (by simp only [Prod.mk.injEq] at hsz; exact hsz.2.1) hOd hi rfl 0
  rw [if_pos rfl, Nat.sub_self] at hrun
  have hrun : (Builtin.append_ #[29, 29] 29 #[.slice (some ⟨g, 0, none⟩) m (m + 1), .slice (some ⟨g, 0, none⟩) 0 0]).run Try.prog w.drew = .ok (.slice (some ⟨g, 0, none⟩) m (m + 1)) w1 := hrun
  have hR1 : Kd.R k34 34 w1 base (fun _ => True) (.slice (some ⟨g, 0, none⟩) m (m + 1)) (xs.eraseIdx m) := hR1
  have hsame : k34.sz = 2 := rfl
  obtain ⟨row1, hh1, hrs⟩ : ∃ row : Array Value, w1.heap[g]? = some (.cells row 34 (0, 0)) ∧ row.size = (m + 1) * 2 := by
    obtain ⟨_, inner, hown, _⟩ := hR1
    rcases hown.2 with ⟨hv, _⟩ | ⟨g', cap', cur, hv, hb, hh, h3, hcm, hcs, htake⟩
    · cases hv
    injection hv with ha _ hc
    injection ha with ha
    injection ha with hg
    subst hg; subst hc
    exact ⟨cur, hh, hcs⟩
  have hcl : ∀ ty, (Builtin.clear_ #[29] ty #[.slice (some ⟨g, m * 2, none⟩) 1 1]).run Try.prog w1 = .ok (.tuple #[]) (w1.setCells g (m * 2) [.string ⟨#[]⟩, .int .i64 0]) := fun ty => by
    refine run_clear_sliceK w1 29 34 ty _ Try.underlying29 zero34 g (m * 2) 1 1 (by omega) [.string ⟨#[]⟩, .int .i64 0] (by simp [Builtin.zeroCells, Value.cells]; rfl) (fun v hv => by simp at hv; rcases hv with rfl | rfl <;> rfl) (fun j hj => ?_) (fun j _ => blk_frozen hh1 _)
    rw [cell_of_row _ _ _ _ _ _ hh1]
    simp only [List.length_cons, List.length_nil] at hj
    simp; omega
  obtain ⟨hR2, hg2⟩ := R_tail k34 hR1 (m * 2) [.string ⟨#[]⟩, .int .i64 0] (by rw [hsame]; omega) (by rw [hsame]; simp; omega)
  have HR2 := Aside0.mk hR2
  have HB2 := Aside0.mk ((((Below.refl base w).drew.grown hg1 hbase (fun k e => by cases e; exact Kd.R_base hO _ rfl))).grown hg2 (Nat.le_trans hbase hg1.size) (fun k e => by cases e; exact Kd.R_base hO _ rfl))
  have HRUN := Aside0.mk hrun
  have hq : ((m : Int) == (m : Int) + 1) = false := by simp; omega
  have hb1 : ¬ (m + 1 = m) := by omega
  have hb2 : ¬ ((m + 1) = m) := by omega
  have hb4 : (m : Int) + 1 ≤ (m : Int) + 1 := by omega
  have hb5 : (0 : Int) ≤ (m : Int) + 1 := by omega
  have htn : ((m : Int) + 1).toNat = m + 1 := by omega
  have mixed : Try.prog.follows Departure.mixedOrders = true := by kernel_rfl
  have hic : (m : Int) ≤ (m : Int) + 1 := by omega
  have hic2 : m ≤ m + 1 := by omega
  clear hrun hR1 hR2 hg1 hg2 hO hOd hn hsz hi0 hh1 hrs hsame
  go_enter Try.func26, Try.ntmps26
  go_wp2
  go_region_law_o (first
    | (refine step_append_runI rfl (.tmp 22) (.tmp 25) 29 29 rfl _ _ (by simp [Act.eval, Act.put]) (by simp [Act.eval, Act.put]) HRUN.out ?_))
  go_wp2
  go_ret
  exact ⟨_, rfl, HR2.out, HB2.out⟩
theorem delete34_any (base : Nat) (A0 : Option Addr) (n cap i : Nat) (xs : List S34) (w : World) (hO : Kd.R k34 34 w base (fun _ => True) (.slice A0 n cap) xs) (hi : i < n) (hbase : base ≤ w.heap.size) (hlen : n ≤ 1000000000000) :
    Calls Try.prog 26 #[.slice A0 n cap, .int .i64 i, .int .i64 ((i : Int) + 1)] w fun e w' => ∃ v1 : Value, e = .returned v1 ∧ Kd.R k34 34 w' base (fun _ => True) v1 (xs.eraseIdx i) ∧ Below base w w' := by
  obtain ⟨g, c, he⟩ : ∃ g c, Value.slice A0 n cap = .slice (some ⟨g, 0, none⟩) n c := by
    obtain ⟨_, inner, hown, _⟩ := hO
    rcases hown.2 with ⟨hv, h0⟩ | ⟨g', cap', cur, hv, hb, hh, h3, hcm, hcs, htake⟩
    · injection hv with _ h1 _
      omega
    · injection hv with h1 h2 h3
      subst h1; subst h3
      exact ⟨_, _, rfl⟩
  injection he with h1 _ h3
  subst h1; subst h3
  obtain ⟨m, rfl⟩ : ∃ m, n = m + 1 := ⟨n - 1, by omega⟩
  by_cases hc : cap = i + 1
  · obtain ⟨_, hnc, _⟩ := Kd.R_reads' hO
    obtain rfl : i = m := by omega
    subst hc
    exact delete34_last base g i xs w hO hbase (by omega)
  · exact delete34 base g m cap i xs w hO hi hbase (by omega) hc
def dir_Remove.f (k : Nat) (l0 : List S34) (a1 : ByteArray) : Option (List S34 × Int) := (dir_Check.f k l0).bind fun t => if t = 0 then ((dir_search.f l0 a1).bind fun s => if s.2 = true then (if 0 ≤ s.1 ∧ s.1.toNat < l0.length ∧ l0.length ≤ 63 then some (l0.eraseIdx s.1.toNat, 0) else none) else some ([], 101)) else some ([], t)
theorem dir_Remove.mono : ∀ a0 a1 k, LeO (dir_Remove.f k a0 a1) (dir_Remove.f (k + 1) a0 a1) := by
  intro a0 a1 k
  unfold dir_Remove.f
  exact LeO.bind (dir_Check.mono a0 k) (fun _ => LeO.refl _)
set_option maxHeartbeats 8000000 in
set_option maxRecDepth 100000 in
theorem rem_e1 (k : Nat) (A0 : Option Addr) (c0 : Nat) (l0 : List S34) (a : ByteArray) (t : Int) (w : World) (hr0 : Kd.C k34 w A0 l0.length l0) (hc0 : l0.length ≤ c0)
    (h1 : dir_Check.f k l0 = some t) (h2 : ¬ t = 0) :
    Calls Try.prog 17 #[.slice A0 l0.length c0, .string a] w fun e w' => ∃ v0_ : Value, e = .returned (.tuple #[v0_, .int .i64 t]) ∧ Kd.R k34 34 w' w.heap.size (fun _ => True) v0_ [] ∧ Below w.heap.size w w' := by
  have HR0 := Aside0.mk hr0
  have HC0 := Aside0.mk hc0
  have A1 := Aside0.mk h1
  have A2 := Aside0.mk h2
  have hq1 : (t == 0) = false := by simpa using h2
  have hq2 : (t != 0) = true := by simpa using h2
  clear hr0 hc0 h1 h2
  go_enter Try.func17, Try.ntmps17
  go_wp2_with (first
    | (go_at_call 10; refine (dir_Check.calls k A0 c0 l0 _ _ HR0.out HC0.out A1.out).mono ?_; rintro e w1 ⟨rfl, hb1⟩; have HB1 := Aside0.mk (below_step (Below.refl w.heap.size w) hb1); clear hb1)
    | (go_at_call 23; refine (dir_search.calls A0 c0 l0 a _ _ _ (Kd.C_below HR0.out HB1.out) HC0.out A2.out).mono ?_; rintro e w3 ⟨rfl, hb3⟩; have HB3 := Aside0.mk (below_step HB1.out hb3); clear hb3)
    | (go_at_call 25; refine (clone34 A0 c0 l0 _ (Kd.C_below HR0.out HB3.out) (by have := A4.out; omega)).mono ?_; rintro e w5 ⟨v5, rfl, ho5, hb5⟩; obtain ⟨A5', c5, rfl, hl5, _⟩ := Kd.R_reads ho5; have HO5 := Aside0.mk ho5; have HBW := Aside0.mk (below_step HB3.out hb5); clear ho5 hb5)
    | (go_at_call 26; refine (delete34_any w.heap.size A5' l0.length c5 i l0 _ (Kd.R_lower HO5.out HB3.out.size) A3.out HBW.out.size (by have := A4.out; omega)).mono ?_; rintro e w6 ⟨v6, rfl, ho6, hb6⟩; have HO6 := Aside0.mk ho6; have HB6 := Aside0.mk (HBW.out.trans hb6); clear ho6 hb6))
  go_ret2
  exact ⟨_, rfl, Kd.R_nil _ _ _ _ _, HB1.out⟩
set_option maxHeartbeats 8000000 in
set_option maxRecDepth 100000 in
theorem rem_e2 (k : Nat) (A0 : Option Addr) (c0 : Nat) (l0 : List S34) (a : ByteArray) (i : Int) (w : World) (hr0 : Kd.C k34 w A0 l0.length l0) (hc0 : l0.length ≤ c0)
    (h1 : dir_Check.f k l0 = some 0) (h2 : dir_search.f l0 a = some (i, false)) :
    Calls Try.prog 17 #[.slice A0 l0.length c0, .string a] w fun e w' => ∃ v0_ : Value, e = .returned (.tuple #[v0_, .int .i64 101]) ∧ Kd.R k34 34 w' w.heap.size (fun _ => True) v0_ [] ∧ Below w.heap.size w w' := by
  have HR0 := Aside0.mk hr0
  have HC0 := Aside0.mk hc0
  have A1 := Aside0.mk h1
  have A2 := Aside0.mk h2
  clear hr0 hc0 h1 h2
  go_enter Try.func17, Try.ntmps17
  go_wp2_with (first
    | (go_at_call 10; refine (dir_Check.calls k A0 c0 l0 _ _ HR0.out HC0.out A1.out).mono ?_; rintro e w1 ⟨rfl, hb1⟩; have HB1 := Aside0.mk (below_step (Below.refl w.heap.size w) hb1); clear hb1)
    | (go_at_call 23; refine (dir_search.calls A0 c0 l0 a _ _ _ (Kd.C_below HR0.out HB1.out) HC0.out A2.out).mono ?_; rintro e w3 ⟨rfl, hb3⟩; have HB3 := Aside0.mk (below_step HB1.out hb3); clear hb3)
    | (go_at_call 25; refine (clone34 A0 c0 l0 _ (Kd.C_below HR0.out HB3.out) (by have := A4.out; omega)).mono ?_; rintro e w5 ⟨v5, rfl, ho5, hb5⟩; obtain ⟨A5', c5, rfl, hl5, _⟩ := Kd.R_reads ho5; have HO5 := Aside0.mk ho5; have HBW := Aside0.mk (below_step HB3.out hb5); clear ho5 hb5)
    | (go_at_call 26; refine (delete34_any w.heap.size A5' l0.length c5 i l0 _ (Kd.R_lower HO5.out HB3.out.size) A3.out HBW.out.size (by have := A4.out; omega)).mono ?_; rintro e w6 ⟨v6, rfl, ho6, hb6⟩; have HO6 := Aside0.mk ho6; have HB6 := Aside0.mk (HBW.out.trans hb6); clear ho6 hb6))
  go_ret2
  exact ⟨_, rfl, Kd.R_nil _ _ _ _ _, HB3.out⟩
set_option maxHeartbeats 8000000 in
set_option maxRecDepth 100000 in
theorem rem_main (k : Nat) (A0 : Option Addr) (c0 : Nat) (l0 : List S34) (a : ByteArray) (i : Nat) (w : World) (hr0 : Kd.C k34 w A0 l0.length l0) (hc0 : l0.length ≤ c0)
    (h1 : dir_Check.f k l0 = some 0) (h2 : dir_search.f l0 a = some ((i : Int), true)) (h3 : i < l0.length) (h4 : l0.length ≤ 63) :
    Calls Try.prog 17 #[.slice A0 l0.length c0, .string a] w fun e w' => ∃ v0_ : Value, e = .returned (.tuple #[v0_, .int .i64 0]) ∧ Kd.R k34 34 w' w.heap.size (fun _ => True) v0_ (l0.eraseIdx i) ∧ Below w.heap.size w w' := by
  have HR0 := Aside0.mk hr0
  have HC0 := Aside0.mk hc0
  have A1 := Aside0.mk h1
  have A2 := Aside0.mk h2
  have A3 := Aside0.mk h3
  have A4 := Aside0.mk h4
  have hib : i ≤ 62 := by omega
  clear hr0 hc0 h1 h2 h3 h4
  go_enter Try.func17, Try.ntmps17
  go_wp2_with (first
    | (go_at_call 10; refine (dir_Check.calls k A0 c0 l0 _ _ HR0.out HC0.out A1.out).mono ?_; rintro e w1 ⟨rfl, hb1⟩; have HB1 := Aside0.mk (below_step (Below.refl w.heap.size w) hb1); clear hb1)
    | (go_at_call 23; refine (dir_search.calls A0 c0 l0 a _ _ _ (Kd.C_below HR0.out HB1.out) HC0.out A2.out).mono ?_; rintro e w3 ⟨rfl, hb3⟩; have HB3 := Aside0.mk (below_step HB1.out hb3); clear hb3)
    | (go_at_call 25; refine (clone34 A0 c0 l0 _ (Kd.C_below HR0.out HB3.out) (by have := A4.out; omega)).mono ?_; rintro e w5 ⟨v5, rfl, ho5, hb5⟩; obtain ⟨A5', c5, rfl, hl5, _⟩ := Kd.R_reads ho5; have HO5 := Aside0.mk ho5; have HBW := Aside0.mk (below_step HB3.out hb5); clear ho5 hb5)
    | (go_at_call 26; refine (delete34_any w.heap.size A5' l0.length c5 i l0 _ (Kd.R_lower HO5.out HB3.out.size) A3.out HBW.out.size (by have := A4.out; omega)).mono ?_; rintro e w6 ⟨v6, rfl, ho6, hb6⟩; have HO6 := Aside0.mk ho6; have HB6 := Aside0.mk (HBW.out.trans hb6); clear ho6 hb6))
  go_ret2
  exact ⟨_, rfl, HO6.out, HB6.out⟩
theorem dir_Remove.calls (k : Nat) (A0 : Option Addr) (c0 : Nat) (l0 : List S34) (a1 : ByteArray) (r1 : List S34) (r2 : Int) (w : World) (hr0 : Kd.C k34 w A0 l0.length l0) (hc0 : l0.length ≤ c0) (h : dir_Remove.f k l0 a1 = some (r1, r2)) :
    Calls Try.prog 17 #[.slice A0 l0.length c0, .string a1] w fun e w' => ∃ v0_ : Value, e = .returned (.tuple #[v0_, .int .i64 r2]) ∧ Kd.R k34 34 w' w.heap.size (fun _ => True) v0_ r1 ∧ Below w.heap.size w w' := by
  unfold dir_Remove.f at h
  obtain ⟨t, h1, h⟩ := Option.bind_eq_some_iff.1 h
  by_cases ht : t = 0
  case neg =>
    rw [if_neg ht] at h
    obtain ⟨rfl, rfl⟩ := Prod.mk.inj (Option.some.inj h)
    exact rem_e1 k A0 c0 l0 a1 t w hr0 hc0 h1 ht
  subst ht
  rw [if_pos rfl] at h
  obtain ⟨⟨i, is⟩, h2, h⟩ := Option.bind_eq_some_iff.1 h
  cases is with
  | false =>
    rw [if_neg (by simp)] at h
    obtain ⟨rfl, rfl⟩ := Prod.mk.inj (Option.some.inj h)
    exact rem_e2 k A0 c0 l0 a1 i w hr0 hc0 h1 h2
  | true =>
    rw [if_pos rfl] at h
    by_cases h6 : 0 ≤ i ∧ i.toNat < l0.length ∧ l0.length ≤ 63
    · rw [if_pos h6] at h
      obtain ⟨rfl, rfl⟩ := Prod.mk.inj (Option.some.inj h)
      obtain ⟨n, rfl⟩ : ∃ n : Nat, i = (n : Int) := ⟨i.toNat, by omega⟩
      have e : ((n : Int)).toNat = n := by omega
      rw [e]
      exact rem_main k A0 c0 l0 a1 n w hr0 hc0 h1 h2 (by omega) (by omega)
    · rw [if_neg h6] at h; cases h
end

/-! ### undercroftref08_Remove: function 18 -/
def undercroftref08_Remove.l0 : Nat → List (S37) → ByteArray → List (S37) → Int → Option ((List (S37)) × Int)
  | 0, _, _, _, _ => none
  | k + 1, x0, x1, x9, x10 => if x10 < (x0.length : Int) then (if 0 ≤ x10 then (if ((rd_T37 x0 x10).f0).toList = x1.toList then (undercroftref08_Remove.l0 k x0 x1 x9 (wrap64 (x10 + 1))) else (if x9.length < 5864062014805 then (undercroftref08_Remove.l0 k x0 x1 (x9 ++ [(⟨(rd_T37 x0 x10).f0, (rd_T37 x0 x10).f1⟩ : S37)]) (wrap64 (x10 + 1))) else (none))) else (none)) else (some (x9, 0))
def undercroftref08_Remove.f (k : Nat) (l0 : List (S37)) (a1 : ByteArray) : Option ((List (S37)) × Int) := (undercroftref08_Find.f k l0 a1).bind fun bt167 => (if bt167.2.2 = 0 then (if bt167.2.1 = true then (undercroftref08_Remove.l0 k l0 a1 ([] : List (S37)) 0) else (some (([] : List (S37)), 101))) else (some (([] : List (S37)), bt167.2.2)))
theorem undercroftref08_Remove.mono_l : ∀ k, (∀ y0 y1 y2 y3, LeO (undercroftref08_Remove.l0 k y0 y1 y2 y3) (undercroftref08_Remove.l0 (k + 1) y0 y1 y2 y3))
  | 0 => fun _ _ _ _ r h => by simp [undercroftref08_Remove.l0] at h
  | k + 1 => by
    have ih0 := undercroftref08_Remove.mono_l k
    · intro y0 y1 y2 y3
      unfold undercroftref08_Remove.l0
      repeat' first
      | (with_reducible exact ih0 _ _ _ _)
      | (with_reducible exact undercroftref08_Find.mono _ _ _)
      | (with_reducible exact LeO.refl _)
      | (with_reducible exact LeO.none _)
      | (with_reducible refine LeO.ite ?_ ?_)
      | (with_reducible refine LeO.bind ?_ (fun _ => ?_))
      | exact ih0 _ _ _ _
      | exact undercroftref08_Find.mono _ _ _
      | exact LeO.none _
      | refine LeO.ite ?_ ?_
      | refine LeO.bind ?_ (fun _ => ?_)
theorem undercroftref08_Remove.mono : ∀ a0 a1 k, LeO (undercroftref08_Remove.f k a0 a1) (undercroftref08_Remove.f (k + 1) a0 a1) := by
  intro a0 a1 k
  have ih0 := undercroftref08_Remove.mono_l k
  unfold undercroftref08_Remove.f
  repeat' first
      | (with_reducible exact ih0 _ _ _ _)
      | (with_reducible exact undercroftref08_Find.mono _ _ _)
      | (with_reducible exact LeO.refl _)
      | (with_reducible exact LeO.none _)
      | (with_reducible refine LeO.ite ?_ ?_)
      | (with_reducible refine LeO.bind ?_ (fun _ => ?_))
      | exact ih0 _ _ _ _
      | exact undercroftref08_Find.mono _ _ _
      | exact LeO.none _
      | refine LeO.ite ?_ ?_
      | refine LeO.bind ?_ (fun _ => ?_)
set_option maxHeartbeats 8000000 in
set_option maxRecDepth 100000 in
theorem undercroftref08_Remove.calls (k : Nat) (A0 : Option Addr) (c0 : Nat) (l0 : List (S37)) (a1 : ByteArray) (r1 : List (S37)) (r2 : Int) (w : World) (hr0 : Kd.C k37 w A0 l0.length l0) (hc0 : l0.length ≤ c0) (h : undercroftref08_Remove.f k l0 a1 = some (r1, r2)) :
    Calls Try.prog 18 #[.slice A0 l0.length c0, .string a1] w fun e w' => ∃ v0_ : Value, e = .returned (.tuple #[v0_, .int .i64 r2]) ∧ Kd.R k37 37 w' w.heap.size (fun _ => True) v0_ r1 ∧ Below w.heap.size w w' := by
  have hu37 := Try.underlying37
  have HR0 := Aside0.mk hr0
  have HC0 := Aside0.mk hc0
  clear hr0 hc0
  have HB := Aside0.mk (Below.refl w.heap.size w)
  have H : ((undercroftref08_Find.f k l0 a1).bind fun bt167 => (if bt167.2.2 = 0 then (if bt167.2.1 = true then (undercroftref08_Remove.l0 k l0 a1 ([] : List (S37)) 0) else (some (([] : List (S37)), 101))) else (some (([] : List (S37)), bt167.2.2)))) = some (r1, r2) := h
  clear h
  replace H := Option.bind_eq_some_iff.mp H
  obtain ⟨⟨t167, t168, t169⟩, A30, H⟩ := H
  replace H : (if t169 = 0 then (if t168 = true then (undercroftref08_Remove.l0 k l0 a1 ([] : List (S37)) 0) else (some (([] : List (S37)), 101))) else (some (([] : List (S37)), t169))) = some (r1, r2) := H
  have A3 := Aside0.mk A30
  clear A30
  by_cases c4 : t169 = 0
  · rw [if_pos c4] at H
    have c4b0 : (t169 == 0) = true := beq_iff_eq.mpr c4
    have c4b1 : (t169 != 0) = false := bne_eq_false_iff_eq.mpr c4
    clear c4
    by_cases c5 : t168 = true
    · subst c5
      have H1 : (undercroftref08_Remove.l0 k l0 a1 ([] : List (S37)) 0) = some (r1, r2) := by rw [if_pos rfl] at H; exact H
      clear H
      have H := H1
      clear H1
      have H' := Aside0.mk H
      clear H
      go_enter Try.func18, Try.ntmps18
      go_wp2_with (first | ((with_reducible refine gate_callee (f := 16) rfl ?_); refine goesL_ (some 14) rfl rfl Try.func16 (by kernel_rfl) rfl #[.slice A0 l0.length c0, .string a1] rfl (by (try simp only [List.map_toArray, List.map_cons, List.map_nil]); first | done | rfl | (simp only [List.length_drop, List.length_take]; rfl)) ?_; (with_reducible refine (undercroftref08_Find.calls k _ _ l0 a1 t167 true t169 _ ?side1 ?side2 A3.out).mono ?_); (case side1 => repeat (first | exact HR0.out | (with_reducible refine Kd.C_alloc ?_ _) | (with_reducible refine Kd.C_drewN ?_ _) | (with_reducible refine Kd.C_drew ?_))); (case side2 => exact HC0.out); rintro e w6 ⟨rfl, hb⟩; refine ⟨_, rfl, ?_⟩; have n0_ := Aside0.mk (below_step (by repeat (first | (with_reducible first | exact HB.out | apply below_alloc | apply pw_below_drewN | apply below_drew1) | exact HB.out)) hb); clear HB; have HB := n0_; clear n0_; (try clear hb); (try clear hb2); (try clear hk); (try clear hi)))
      go_loopg [9, 10] k (fun kq v9 v10 w' => ∃ (x9_1 : List (S37)) (x10_1 : Int), v10 = .int .i64 x10_1 ∧ Aside0 (undercroftref08_Remove.l0 kq l0 a1 x9_1 x10_1 = some (r1, r2)) ∧ Aside0 (kq ≤ k) ∧ Aside0 (Kd.R k37 37 w' w.heap.size (fun _ => True) v9 x9_1) ∧ Aside0 (Below w.heap.size w w'))
      case atStart => exact ⟨(([] : List (S37))), (0), (by first | rfl | (simp; done) | (simp [*]; done)), H', ⟨Nat.le_refl _⟩, ⟨by first | exact Kd.R_nil _ _ _ _ _ | exact Kd.N_nil _ _ _ _ _ | exact Kd.V_nil _ _ _ _ _ | exact Kd.Q_nil _ _ _ _ _ | exact Kd.S_nil _ _ _ _ _⟩, ⟨by repeat (first | (with_reducible first | exact HB.out | apply below_alloc | apply pw_below_drewN | apply below_drew1) | exact HB.out)⟩⟩
      case round =>
        clear H'
        try clear c1
        try clear p2
        try clear c4
        try clear c4b0
        try clear c4b1
        try clear c5
        obtain ⟨x9_1, x10_1, rfl, HA, HK1, HO_9, HB⟩ := hrel
        cases gk with
        | zero => exact absurd HA.out (by simp [undercroftref08_Remove.l0])
        | succ k1 =>
          have H := HA.out
          clear HA
          simp only [undercroftref08_Remove.l0] at H
          by_cases c7 : x10_1 < (l0.length : Int)
          · rw [if_pos c7] at H
            have c7b0 : decide (x10_1 < (l0.length : Int)) = true := decide_eq_true c7
            clear c7
            by_cases c8 : 0 ≤ x10_1
            · rw [if_pos c8] at H
              have c8b0 : decide (0 ≤ x10_1) = true := decide_eq_true c8
              clear c8
              by_cases c9 : ((rd_T37 l0 x10_1).f0).toList = a1.toList
              · rw [if_pos c9] at H
                have c9b0 : (((rd_T37 l0 x10_1).f0).toList == a1.toList) = true := beq_iff_eq.mpr c9
                have c9b1 : (((rd_T37 l0 x10_1).f0).toList != a1.toList) = false := bne_eq_false_iff_eq.mpr c9
                clear c9
                have H' := Aside0.mk H
                clear H
                have p170 : 0 ≤ (x10_1 : Int) := of_decide_eq_true (by first | (with_reducible assumption) | assumption)
                have q170 : x10_1 < (l0.length : Int) := of_decide_eq_true (by first | (with_reducible assumption) | assumption)
                obtain ⟨ad170, e170, hx170_0, hx170_1⟩ := at_T37 HR0.out x10_1 p170 q170
                cases e170
                replace hx170_0 := (HB.out.cell (World.block_lt_of_cell? w _ hx170_0)).trans hx170_0
                replace hx170_1 := (HB.out.cell (World.block_lt_of_cell? w _ hx170_1)).trans hx170_1
                replace p170 := eq_true p170
                replace q170 := eq_true q170
                go_wp2
                go_roundg k1
                case measure => have := HK1.out; omega
                case rel => exact ⟨(x9_1), (wrap64 (x10_1 + 1)), (by first | rfl | (simp; done) | (simp [*]; done)), H', ⟨by have := HK1.out; omega⟩, ⟨by (with_reducible repeat (first | apply Kd.R_alloc | apply Kd.R_drewN | apply Kd.R_drew)); exact HO_9.out⟩, ⟨by repeat (first | (with_reducible first | exact HB.out | apply below_alloc | apply pw_below_drewN | apply below_drew1) | exact HB.out)⟩⟩
              · rw [if_neg c9] at H
                have c9b0 : (((rd_T37 l0 x10_1).f0).toList == a1.toList) = false := beq_eq_false_iff_ne.mpr c9
                have c9b1 : (((rd_T37 l0 x10_1).f0).toList != a1.toList) = true := bne_iff_ne.mpr c9
                by_cases c10 : x9_1.length < 5864062014805
                · rw [if_pos c10] at H
                  have LMc10 := Aside0.mk c10
                  clear c10
                  obtain ⟨y172, hy172⟩ : ∃ y_ : List (S37), y_ = (x9_1 ++ [(⟨(rd_T37 l0 x10_1).f0, (rd_T37 l0 x10_1).f1⟩ : S37)]) := ⟨_, rfl⟩
                  replace H : (undercroftref08_Remove.l0 k1 l0 a1 y172 (wrap64 (x10_1 + 1))) = some (r1, r2) := by first | (rw [hy172]; with_reducible exact H) | (have H2_ := (Option.bind_some _ _).symm.trans H; rw [hy172]; with_reducible exact H2_) | (have H2_ := (Option.bind_some _ _).symm.trans H; with_reducible exact H2_) | with_reducible exact H | (rw [hy172]; exact H) | exact H
                  have Ny172 := Aside0.mk hy172
                  clear hy172
                  have H' := Aside0.mk H
                  clear H
                  have p170 : 0 ≤ (x10_1 : Int) := of_decide_eq_true (by first | (with_reducible assumption) | assumption)
                  have q170 : x10_1 < (l0.length : Int) := of_decide_eq_true (by first | (with_reducible assumption) | assumption)
                  obtain ⟨ad170, e170, hx170_0, hx170_1⟩ := at_T37 HR0.out x10_1 p170 q170
                  cases e170
                  replace hx170_0 := (HB.out.cell (World.block_lt_of_cell? w _ hx170_0)).trans hx170_0
                  replace hx170_1 := (HB.out.cell (World.block_lt_of_cell? w _ hx170_1)).trans hx170_1
                  replace p170 := eq_true p170
                  replace q170 := eq_true q170
                  have p171 : 0 ≤ (x10_1 : Int) := of_decide_eq_true (by first | (with_reducible assumption) | assumption)
                  have q171 : x10_1 < (l0.length : Int) := of_decide_eq_true (by first | (with_reducible assumption) | assumption)
                  obtain ⟨ad171, e171, hx171_0, hx171_1⟩ := at_T37 HR0.out x10_1 p171 q171
                  obtain rfl : ad170 = ad171 := (by injection e171)
                  replace hx171_0 := (HB.out.cell (World.block_lt_of_cell? w _ hx171_0)).trans hx171_0
                  replace hx171_1 := (HB.out.cell (World.block_lt_of_cell? w _ hx171_1)).trans hx171_1
                  replace p171 := eq_true p171
                  replace q171 := eq_true q171
                  go_wp2_with (first | ((with_reducible refine gate_builtin (b := .append) (xs := #[.tmp 38, .tmp 43]) rfl ?_); at_builtin; refine Kd.R_append k37 (w0 := w) w.heap.size rfl (.tmp 38) (.tmp 43) 22 37 (.agg #[(.string ⟨#[]⟩), (.int .i64 0)]) 24 rfl Try.underlying22 info37 rfl (by decide) (by omega) u9 x9_1 (⟨(rd_T37 l0 x10_1).f0, (rd_T37 l0 x10_1).f1⟩ : S37) [.string ((rd_T37 l0 x10_1).f0), .int .i64 ((rd_T37 l0 x10_1).f1)] (fun _ => True) (fun _ => False) rfl rfl ?aP (fun _ hk => hk.elim) ?aF ?aO ?aB ?aS ?aL ?_; (case aP => exact k37_mkM _ _ _ (⟨(rd_T37 l0 x10_1).f0, (rd_T37 l0 x10_1).f1⟩ : S37)); (case aB => exact (by repeat (first | (with_reducible first | exact HB.out | apply below_alloc | apply pw_below_drewN | apply below_drew1) | exact HB.out))); (case aF => exact (fun _ _ => trivial)); (case aO => exact (by (with_reducible repeat (first | apply Kd.R_alloc | apply Kd.R_drewN | apply Kd.R_drew)); exact HO_9.out)); (case aS => exact (below_size (by repeat (first | (with_reducible first | exact HB.out | apply below_alloc | apply pw_below_drewN | apply below_drew1) | exact HB.out)))); (case aL => have := LMc10.out; omega); intro v173 w11 ho hb hg hat; rw [← Ny172.out] at ho; have n0_ := Aside0.mk (hb); have n1_ := Aside0.mk (ho); clear HB; clear HO_9; have HB := n0_; have HO174 := n1_; clear n0_ n1_; clear ho hb hg hat))
                  go_roundg k1
                  case measure => have := HK1.out; omega
                  case rel => exact ⟨(y172), (wrap64 (x10_1 + 1)), (by first | rfl | (simp; done) | (simp [*]; done)), H', ⟨by have := HK1.out; omega⟩, ⟨by (with_reducible repeat (first | apply Kd.R_alloc | apply Kd.R_drewN | apply Kd.R_drew)); exact HO174.out⟩, ⟨by repeat (first | (with_reducible first | exact HB.out | apply below_alloc | apply pw_below_drewN | apply below_drew1) | exact HB.out)⟩⟩
                · rw [if_neg c10] at H
                  exact absurd H (by simp)
            · rw [if_neg c8] at H
              exact absurd H (by simp)
          · rw [if_neg c7] at H
            have c7b0 : decide (x10_1 < (l0.length : Int)) = false := decide_eq_false c7
            clear c7
            simp only [Option.some.injEq, Prod.mk.injEq] at H
            obtain ⟨rfl, rfl⟩ := H
            go_wp2
            go_ret2
            exact ⟨_, by first | rfl | (simp [errW_none, errW_some] <;> rfl) | (simp [*, errW_none, errW_some] <;> rfl), by (with_reducible repeat (first | apply Kd.R_alloc | apply Kd.R_drewN | apply Kd.R_drew)); exact HO_9.out, by repeat (first | (with_reducible first | exact HB.out | apply below_alloc | apply pw_below_drewN | apply below_drew1) | exact HB.out)⟩
    · replace c5 := Bool.eq_false_iff.mpr c5
      subst c5
      have H1 : (some (([] : List (S37)), 101)) = some (r1, r2) := by rw [if_neg (show ¬ (false = true) by decide)] at H; exact H
      clear H
      have H := H1
      clear H1
      simp only [Option.some.injEq, Prod.mk.injEq] at H
      obtain ⟨rfl, rfl⟩ := H
      go_enter Try.func18, Try.ntmps18
      go_wp2_with (first | ((with_reducible refine gate_callee (f := 16) rfl ?_); refine goesL_ (some 14) rfl rfl Try.func16 (by kernel_rfl) rfl #[.slice A0 l0.length c0, .string a1] rfl (by (try simp only [List.map_toArray, List.map_cons, List.map_nil]); first | done | rfl | (simp only [List.length_drop, List.length_take]; rfl)) ?_; (with_reducible refine (undercroftref08_Find.calls k _ _ l0 a1 t167 false t169 _ ?side1 ?side2 A3.out).mono ?_); (case side1 => repeat (first | exact HR0.out | (with_reducible refine Kd.C_alloc ?_ _) | (with_reducible refine Kd.C_drewN ?_ _) | (with_reducible refine Kd.C_drew ?_))); (case side2 => exact HC0.out); rintro e w12 ⟨rfl, hb⟩; refine ⟨_, rfl, ?_⟩; have n0_ := Aside0.mk (below_step (by repeat (first | (with_reducible first | exact HB.out | apply below_alloc | apply pw_below_drewN | apply below_drew1) | exact HB.out)) hb); clear HB; have HB := n0_; clear n0_; (try clear hb); (try clear hb2); (try clear hk); (try clear hi)))
      go_ret2
      exact ⟨_, by first | rfl | (simp [errW_none, errW_some] <;> rfl) | (simp [*, errW_none, errW_some] <;> rfl), by first | exact Kd.R_nil _ _ _ _ _ | exact Kd.N_nil _ _ _ _ _ | exact Kd.V_nil _ _ _ _ _ | exact Kd.Q_nil _ _ _ _ _ | exact Kd.S_nil _ _ _ _ _, by repeat (first | (with_reducible first | exact HB.out | apply below_alloc | apply pw_below_drewN | apply below_drew1) | exact HB.out)⟩
  · rw [if_neg c4] at H
    have c4b0 : (t169 == 0) = false := beq_eq_false_iff_ne.mpr c4
    have c4b1 : (t169 != 0) = true := bne_iff_ne.mpr c4
    simp only [Option.some.injEq, Prod.mk.injEq] at H
    obtain ⟨rfl, rfl⟩ := H
    go_enter Try.func18, Try.ntmps18
    go_wp2_with (first | ((with_reducible refine gate_callee (f := 16) rfl ?_); refine goesL_ (some 14) rfl rfl Try.func16 (by kernel_rfl) rfl #[.slice A0 l0.length c0, .string a1] rfl (by (try simp only [List.map_toArray, List.map_cons, List.map_nil]); first | done | rfl | (simp only [List.length_drop, List.length_take]; rfl)) ?_; (with_reducible refine (undercroftref08_Find.calls k _ _ l0 a1 t167 t168 t169 _ ?side1 ?side2 A3.out).mono ?_); (case side1 => repeat (first | exact HR0.out | (with_reducible refine Kd.C_alloc ?_ _) | (with_reducible refine Kd.C_drewN ?_ _) | (with_reducible refine Kd.C_drew ?_))); (case side2 => exact HC0.out); rintro e w13 ⟨rfl, hb⟩; refine ⟨_, rfl, ?_⟩; have n0_ := Aside0.mk (below_step (by repeat (first | (with_reducible first | exact HB.out | apply below_alloc | apply pw_below_drewN | apply below_drew1) | exact HB.out)) hb); clear HB; have HB := n0_; clear n0_; (try clear hb); (try clear hb2); (try clear hk); (try clear hi)))
    go_ret2
    exact ⟨_, by first | rfl | (simp [errW_none, errW_some] <;> rfl) | (simp [*, errW_none, errW_some] <;> rfl), by first | exact Kd.R_nil _ _ _ _ _ | exact Kd.N_nil _ _ _ _ _ | exact Kd.V_nil _ _ _ _ _ | exact Kd.Q_nil _ _ _ _ _ | exact Kd.S_nil _ _ _ _ _, by repeat (first | (with_reducible first | exact HB.out | apply below_alloc | apply pw_below_drewN | apply below_drew1) | exact HB.out)⟩

/-! ### undercroftlaw08_DirTells: function 5 -/
def undercroftlaw08_DirTells.j0 : Nat → List (S37) → ByteArray → List (S34) → Bool → Option (Bool)
  | 0, _, _, _, _ => none
  | k + 1, x0, x2, x7, x99 => if x99 = true then (some false) else ((dir_Check.f k x7).bind fun t206 => ((undercroftlaw08_num.f t206).bind fun t207 => ((undercroftref08_Check.f k x0).bind fun t208 => (if t207 = t208 then ((dir_Name.f x2).bind fun t209 => ((undercroftlaw08_num.f t209).bind fun t210 => ((undercroftref08_Name.f k x2).bind fun t211 => (if t210 = t211 then ((undercroftlaw08_Alike.f k x7 x0).bind fun t212 => (if t212 = 0 then ((undercroftlaw08_alive.f k).bind fun t213 => (some t213)) else (some false))) else (some false))))) else (some false)))))
def undercroftlaw08_DirTells.f (k : Nat) (l0 : List (S37)) (a1_0 : ByteArray) (a1_1 : Int) (a2 : ByteArray) : Option (Bool) := (undercroftlaw08_Of.f k l0).bind fun t176 => ((dir_Find.f k t176 a2).bind fun bt179 => ((undercroftref08_Find.f k l0 a2).bind fun bt182 => ((dir_Add.f k t176 a1_0 a1_1).bind fun bt185 => ((undercroftref08_Add.f k l0 a1_0 a1_1).bind fun bt189 => ((dir_Remove.f k t176 a2).bind fun bt193 => ((undercroftref08_Remove.f k l0 a2).bind fun bt197 => (if bt179.1 = bt182.1 then (if (bt179.2.1 != bt182.2.1) = true then (undercroftlaw08_DirTells.j0 k l0 a2 t176 true) else ((undercroftlaw08_num.f bt179.2.2).bind fun t201 => (if t201 = bt182.2.2 then ((undercroftlaw08_Alike.f k bt185.1 bt189.1).bind fun t202 => (if t202 = 0 then ((undercroftlaw08_num.f bt185.2).bind fun t203 => (if t203 = bt189.2 then ((undercroftlaw08_Alike.f k bt193.1 bt197.1).bind fun t204 => (if t204 = 0 then ((undercroftlaw08_num.f bt193.2).bind fun t205 => (undercroftlaw08_DirTells.j0 k l0 a2 t176 (t205 != bt197.2))) else (undercroftlaw08_DirTells.j0 k l0 a2 t176 true))) else (undercroftlaw08_DirTells.j0 k l0 a2 t176 true))) else (undercroftlaw08_DirTells.j0 k l0 a2 t176 true))) else (undercroftlaw08_DirTells.j0 k l0 a2 t176 true)))) else (undercroftlaw08_DirTells.j0 k l0 a2 t176 true))))))))
theorem undercroftlaw08_DirTells.mono_l : ∀ k, (∀ y0 y1 y2 y3, LeO (undercroftlaw08_DirTells.j0 k y0 y1 y2 y3) (undercroftlaw08_DirTells.j0 (k + 1) y0 y1 y2 y3))
  | 0 => fun _ _ _ _ r h => by simp [undercroftlaw08_DirTells.j0] at h
  | k + 1 => by
    have ih0 := undercroftlaw08_DirTells.mono_l k
    · intro y0 y1 y2 y3
      unfold undercroftlaw08_DirTells.j0
      repeat' first
      | (with_reducible exact ih0 _ _ _ _)
      | (with_reducible exact dir_Add.mono _ _ _ _)
      | (with_reducible exact dir_Check.mono _ _)
      | (with_reducible exact dir_Find.mono _ _ _)
      | (with_reducible exact dir_Remove.mono _ _ _)
      | (with_reducible exact undercroftlaw08_Alike.mono _ _ _)
      | (with_reducible exact undercroftlaw08_Of.mono _ _)
      | (with_reducible exact undercroftlaw08_alive.mono _)
      | (with_reducible exact undercroftref08_Add.mono _ _ _ _)
      | (with_reducible exact undercroftref08_Check.mono _ _)
      | (with_reducible exact undercroftref08_Find.mono _ _ _)
      | (with_reducible exact undercroftref08_Name.mono _ _)
      | (with_reducible exact undercroftref08_Remove.mono _ _ _)
      | (with_reducible exact LeO.refl _)
      | (with_reducible exact LeO.none _)
      | (with_reducible refine LeO.ite ?_ ?_)
      | (with_reducible refine LeO.bind ?_ (fun _ => ?_))
      | exact ih0 _ _ _ _
      | exact dir_Add.mono _ _ _ _
      | exact dir_Check.mono _ _
      | exact dir_Find.mono _ _ _
      | exact dir_Remove.mono _ _ _
      | exact undercroftlaw08_Alike.mono _ _ _
      | exact undercroftlaw08_Of.mono _ _
      | exact undercroftlaw08_alive.mono _
      | exact undercroftref08_Add.mono _ _ _ _
      | exact undercroftref08_Check.mono _ _
      | exact undercroftref08_Find.mono _ _ _
      | exact undercroftref08_Name.mono _ _
      | exact undercroftref08_Remove.mono _ _ _
      | exact LeO.none _
      | refine LeO.ite ?_ ?_
      | refine LeO.bind ?_ (fun _ => ?_)
theorem undercroftlaw08_DirTells.mono : ∀ a0 a1 a2 a3 k, LeO (undercroftlaw08_DirTells.f k a0 a1 a2 a3) (undercroftlaw08_DirTells.f (k + 1) a0 a1 a2 a3) := by
  intro a0 a1 a2 a3 k
  have ih0 := undercroftlaw08_DirTells.mono_l k
  unfold undercroftlaw08_DirTells.f
  repeat' first
      | (with_reducible exact ih0 _ _ _ _)
      | (with_reducible exact dir_Add.mono _ _ _ _)
      | (with_reducible exact dir_Check.mono _ _)
      | (with_reducible exact dir_Find.mono _ _ _)
      | (with_reducible exact dir_Remove.mono _ _ _)
      | (with_reducible exact undercroftlaw08_Alike.mono _ _ _)
      | (with_reducible exact undercroftlaw08_Of.mono _ _)
      | (with_reducible exact undercroftlaw08_alive.mono _)
      | (with_reducible exact undercroftref08_Add.mono _ _ _ _)
      | (with_reducible exact undercroftref08_Check.mono _ _)
      | (with_reducible exact undercroftref08_Find.mono _ _ _)
      | (with_reducible exact undercroftref08_Name.mono _ _)
      | (with_reducible exact undercroftref08_Remove.mono _ _ _)
      | (with_reducible exact LeO.refl _)
      | (with_reducible exact LeO.none _)
      | (with_reducible refine LeO.ite ?_ ?_)
      | (with_reducible refine LeO.bind ?_ (fun _ => ?_))
      | exact ih0 _ _ _ _
      | exact dir_Add.mono _ _ _ _
      | exact dir_Check.mono _ _
      | exact dir_Find.mono _ _ _
      | exact dir_Remove.mono _ _ _
      | exact undercroftlaw08_Alike.mono _ _ _
      | exact undercroftlaw08_Of.mono _ _
      | exact undercroftlaw08_alive.mono _
      | exact undercroftref08_Add.mono _ _ _ _
      | exact undercroftref08_Check.mono _ _
      | exact undercroftref08_Find.mono _ _ _
      | exact undercroftref08_Name.mono _ _
      | exact undercroftref08_Remove.mono _ _ _
      | exact LeO.none _
      | refine LeO.ite ?_ ?_
      | refine LeO.bind ?_ (fun _ => ?_)
set_option maxHeartbeats 8000000 in
set_option maxRecDepth 100000 in
theorem undercroftlaw08_DirTells.calls (k : Nat) (A0 : Option Addr) (c0 : Nat) (l0 : List (S37)) (a1_0 : ByteArray) (a1_1 : Int) (a2 : ByteArray) (r : Bool) (w : World) (hr0 : Kd.C k37 w A0 l0.length l0) (hc0 : l0.length ≤ c0) (h : undercroftlaw08_DirTells.f k l0 a1_0 a1_1 a2 = some r) :
    Calls Try.prog 5 #[.slice A0 l0.length c0, .agg #[.string a1_0, .int .i64 a1_1], .string a2] w fun e w' => e = .returned (.bool r) ∧ Below w.heap.size w w' := by
  have hu37 := Try.underlying37
  have HR0 := Aside0.mk hr0
  have HC0 := Aside0.mk hc0
  clear hr0 hc0
  have HB := Aside0.mk (Below.refl w.heap.size w)
  have H : ((undercroftlaw08_Of.f k l0).bind fun t176 => ((dir_Find.f k t176 a2).bind fun bt179 => ((undercroftref08_Find.f k l0 a2).bind fun bt182 => ((dir_Add.f k t176 a1_0 a1_1).bind fun bt185 => ((undercroftref08_Add.f k l0 a1_0 a1_1).bind fun bt189 => ((dir_Remove.f k t176 a2).bind fun bt193 => ((undercroftref08_Remove.f k l0 a2).bind fun bt197 => (if bt179.1 = bt182.1 then (if (bt179.2.1 != bt182.2.1) = true then (undercroftlaw08_DirTells.j0 k l0 a2 t176 true) else ((undercroftlaw08_num.f bt179.2.2).bind fun t201 => (if t201 = bt182.2.2 then ((undercroftlaw08_Alike.f k bt185.1 bt189.1).bind fun t202 => (if t202 = 0 then ((undercroftlaw08_num.f bt185.2).bind fun t203 => (if t203 = bt189.2 then ((undercroftlaw08_Alike.f k bt193.1 bt197.1).bind fun t204 => (if t204 = 0 then ((undercroftlaw08_num.f bt193.2).bind fun t205 => (undercroftlaw08_DirTells.j0 k l0 a2 t176 (t205 != bt197.2))) else (undercroftlaw08_DirTells.j0 k l0 a2 t176 true))) else (undercroftlaw08_DirTells.j0 k l0 a2 t176 true))) else (undercroftlaw08_DirTells.j0 k l0 a2 t176 true))) else (undercroftlaw08_DirTells.j0 k l0 a2 t176 true)))) else (undercroftlaw08_DirTells.j0 k l0 a2 t176 true))))))))) = some r := h
  clear h
  replace H := Option.bind_eq_some_iff.mp H
  obtain ⟨t176, A40, H⟩ := H
  replace H : ((dir_Find.f k t176 a2).bind fun bt179 => ((undercroftref08_Find.f k l0 a2).bind fun bt182 => ((dir_Add.f k t176 a1_0 a1_1).bind fun bt185 => ((undercroftref08_Add.f k l0 a1_0 a1_1).bind fun bt189 => ((dir_Remove.f k t176 a2).bind fun bt193 => ((undercroftref08_Remove.f k l0 a2).bind fun bt197 => (if bt179.1 = bt182.1 then (if (bt179.2.1 != bt182.2.1) = true then (undercroftlaw08_DirTells.j0 k l0 a2 t176 true) else ((undercroftlaw08_num.f bt179.2.2).bind fun t201 => (if t201 = bt182.2.2 then ((undercroftlaw08_Alike.f k bt185.1 bt189.1).bind fun t202 => (if t202 = 0 then ((undercroftlaw08_num.f bt185.2).bind fun t203 => (if t203 = bt189.2 then ((undercroftlaw08_Alike.f k bt193.1 bt197.1).bind fun t204 => (if t204 = 0 then ((undercroftlaw08_num.f bt193.2).bind fun t205 => (undercroftlaw08_DirTells.j0 k l0 a2 t176 (t205 != bt197.2))) else (undercroftlaw08_DirTells.j0 k l0 a2 t176 true))) else (undercroftlaw08_DirTells.j0 k l0 a2 t176 true))) else (undercroftlaw08_DirTells.j0 k l0 a2 t176 true))) else (undercroftlaw08_DirTells.j0 k l0 a2 t176 true)))) else (undercroftlaw08_DirTells.j0 k l0 a2 t176 true)))))))) = some r := H
  have A4 := Aside0.mk A40
  clear A40
  replace H := Option.bind_eq_some_iff.mp H
  obtain ⟨⟨t179, t180, t181⟩, A50, H⟩ := H
  replace H : ((undercroftref08_Find.f k l0 a2).bind fun bt182 => ((dir_Add.f k t176 a1_0 a1_1).bind fun bt185 => ((undercroftref08_Add.f k l0 a1_0 a1_1).bind fun bt189 => ((dir_Remove.f k t176 a2).bind fun bt193 => ((undercroftref08_Remove.f k l0 a2).bind fun bt197 => (if t179 = bt182.1 then (if (t180 != bt182.2.1) = true then (undercroftlaw08_DirTells.j0 k l0 a2 t176 true) else ((undercroftlaw08_num.f t181).bind fun t201 => (if t201 = bt182.2.2 then ((undercroftlaw08_Alike.f k bt185.1 bt189.1).bind fun t202 => (if t202 = 0 then ((undercroftlaw08_num.f bt185.2).bind fun t203 => (if t203 = bt189.2 then ((undercroftlaw08_Alike.f k bt193.1 bt197.1).bind fun t204 => (if t204 = 0 then ((undercroftlaw08_num.f bt193.2).bind fun t205 => (undercroftlaw08_DirTells.j0 k l0 a2 t176 (t205 != bt197.2))) else (undercroftlaw08_DirTells.j0 k l0 a2 t176 true))) else (undercroftlaw08_DirTells.j0 k l0 a2 t176 true))) else (undercroftlaw08_DirTells.j0 k l0 a2 t176 true))) else (undercroftlaw08_DirTells.j0 k l0 a2 t176 true)))) else (undercroftlaw08_DirTells.j0 k l0 a2 t176 true))))))) = some r := H
  have A5 := Aside0.mk A50
  clear A50
  replace H := Option.bind_eq_some_iff.mp H
  obtain ⟨⟨t182, t183, t184⟩, A60, H⟩ := H
  replace H : ((dir_Add.f k t176 a1_0 a1_1).bind fun bt185 => ((undercroftref08_Add.f k l0 a1_0 a1_1).bind fun bt189 => ((dir_Remove.f k t176 a2).bind fun bt193 => ((undercroftref08_Remove.f k l0 a2).bind fun bt197 => (if t179 = t182 then (if (t180 != t183) = true then (undercroftlaw08_DirTells.j0 k l0 a2 t176 true) else ((undercroftlaw08_num.f t181).bind fun t201 => (if t201 = t184 then ((undercroftlaw08_Alike.f k bt185.1 bt189.1).bind fun t202 => (if t202 = 0 then ((undercroftlaw08_num.f bt185.2).bind fun t203 => (if t203 = bt189.2 then ((undercroftlaw08_Alike.f k bt193.1 bt197.1).bind fun t204 => (if t204 = 0 then ((undercroftlaw08_num.f bt193.2).bind fun t205 => (undercroftlaw08_DirTells.j0 k l0 a2 t176 (t205 != bt197.2))) else (undercroftlaw08_DirTells.j0 k l0 a2 t176 true))) else (undercroftlaw08_DirTells.j0 k l0 a2 t176 true))) else (undercroftlaw08_DirTells.j0 k l0 a2 t176 true))) else (undercroftlaw08_DirTells.j0 k l0 a2 t176 true)))) else (undercroftlaw08_DirTells.j0 k l0 a2 t176 true)))))) = some r := H
  have A6 := Aside0.mk A60
  clear A60
  replace H := Option.bind_eq_some_iff.mp H
  obtain ⟨⟨t185, t188⟩, A70, H⟩ := H
  replace H : ((undercroftref08_Add.f k l0 a1_0 a1_1).bind fun bt189 => ((dir_Remove.f k t176 a2).bind fun bt193 => ((undercroftref08_Remove.f k l0 a2).bind fun bt197 => (if t179 = t182 then (if (t180 != t183) = true then (undercroftlaw08_DirTells.j0 k l0 a2 t176 true) else ((undercroftlaw08_num.f t181).bind fun t201 => (if t201 = t184 then ((undercroftlaw08_Alike.f k t185 bt189.1).bind fun t202 => (if t202 = 0 then ((undercroftlaw08_num.f t188).bind fun t203 => (if t203 = bt189.2 then ((undercroftlaw08_Alike.f k bt193.1 bt197.1).bind fun t204 => (if t204 = 0 then ((undercroftlaw08_num.f bt193.2).bind fun t205 => (undercroftlaw08_DirTells.j0 k l0 a2 t176 (t205 != bt197.2))) else (undercroftlaw08_DirTells.j0 k l0 a2 t176 true))) else (undercroftlaw08_DirTells.j0 k l0 a2 t176 true))) else (undercroftlaw08_DirTells.j0 k l0 a2 t176 true))) else (undercroftlaw08_DirTells.j0 k l0 a2 t176 true)))) else (undercroftlaw08_DirTells.j0 k l0 a2 t176 true))))) = some r := H
  have A7 := Aside0.mk A70
  clear A70
  replace H := Option.bind_eq_some_iff.mp H
  obtain ⟨⟨t189, t192⟩, A80, H⟩ := H
  replace H : ((dir_Remove.f k t176 a2).bind fun bt193 => ((undercroftref08_Remove.f k l0 a2).bind fun bt197 => (if t179 = t182 then (if (t180 != t183) = true then (undercroftlaw08_DirTells.j0 k l0 a2 t176 true) else ((undercroftlaw08_num.f t181).bind fun t201 => (if t201 = t184 then ((undercroftlaw08_Alike.f k t185 t189).bind fun t202 => (if t202 = 0 then ((undercroftlaw08_num.f t188).bind fun t203 => (if t203 = t192 then ((undercroftlaw08_Alike.f k bt193.1 bt197.1).bind fun t204 => (if t204 = 0 then ((undercroftlaw08_num.f bt193.2).bind fun t205 => (undercroftlaw08_DirTells.j0 k l0 a2 t176 (t205 != bt197.2))) else (undercroftlaw08_DirTells.j0 k l0 a2 t176 true))) else (undercroftlaw08_DirTells.j0 k l0 a2 t176 true))) else (undercroftlaw08_DirTells.j0 k l0 a2 t176 true))) else (undercroftlaw08_DirTells.j0 k l0 a2 t176 true)))) else (undercroftlaw08_DirTells.j0 k l0 a2 t176 true)))) = some r := H
  have A8 := Aside0.mk A80
  clear A80
  replace H := Option.bind_eq_some_iff.mp H
  obtain ⟨⟨t193, t194⟩, A90, H⟩ := H
  replace H : ((undercroftref08_Remove.f k l0 a2).bind fun bt197 => (if t179 = t182 then (if (t180 != t183) = true then (undercroftlaw08_DirTells.j0 k l0 a2 t176 true) else ((undercroftlaw08_num.f t181).bind fun t201 => (if t201 = t184 then ((undercroftlaw08_Alike.f k t185 t189).bind fun t202 => (if t202 = 0 then ((undercroftlaw08_num.f t188).bind fun t203 => (if t203 = t192 then ((undercroftlaw08_Alike.f k t193 bt197.1).bind fun t204 => (if t204 = 0 then ((undercroftlaw08_num.f t194).bind fun t205 => (undercroftlaw08_DirTells.j0 k l0 a2 t176 (t205 != bt197.2))) else (undercroftlaw08_DirTells.j0 k l0 a2 t176 true))) else (undercroftlaw08_DirTells.j0 k l0 a2 t176 true))) else (undercroftlaw08_DirTells.j0 k l0 a2 t176 true))) else (undercroftlaw08_DirTells.j0 k l0 a2 t176 true)))) else (undercroftlaw08_DirTells.j0 k l0 a2 t176 true))) = some r := H
  have A9 := Aside0.mk A90
  clear A90
  replace H := Option.bind_eq_some_iff.mp H
  obtain ⟨⟨t197, t198⟩, A100, H⟩ := H
  replace H : (if t179 = t182 then (if (t180 != t183) = true then (undercroftlaw08_DirTells.j0 k l0 a2 t176 true) else ((undercroftlaw08_num.f t181).bind fun t201 => (if t201 = t184 then ((undercroftlaw08_Alike.f k t185 t189).bind fun t202 => (if t202 = 0 then ((undercroftlaw08_num.f t188).bind fun t203 => (if t203 = t192 then ((undercroftlaw08_Alike.f k t193 t197).bind fun t204 => (if t204 = 0 then ((undercroftlaw08_num.f t194).bind fun t205 => (undercroftlaw08_DirTells.j0 k l0 a2 t176 (t205 != t198))) else (undercroftlaw08_DirTells.j0 k l0 a2 t176 true))) else (undercroftlaw08_DirTells.j0 k l0 a2 t176 true))) else (undercroftlaw08_DirTells.j0 k l0 a2 t176 true))) else (undercroftlaw08_DirTells.j0 k l0 a2 t176 true)))) else (undercroftlaw08_DirTells.j0 k l0 a2 t176 true)) = some r := H
  have A10 := Aside0.mk A100
  clear A100
  have HC11 := Aside0.mk H
  clear H
  go_enter Try.func5, Try.ntmps5
  go_upto_region 8 with (first | ((with_reducible refine gate_dst (N := 4) rfl ?_); refine box_event ?hg (N := 4) ?hd (cs := #[.string a1_0, .int .i64 a1_1]) (t := 37) ?hr ?_; (case hd => rfl); (case hg => rfl); (case hr => first | (go_simp; done) | (go_simp; rfl)); intro gb175 hg w12 hbox hb; have n0_ := Aside0.mk (below_step (by repeat (first | (with_reducible first | exact HB.out | apply below_alloc | apply pw_below_drewN | apply below_drew1) | exact HB.out)) hb); have n1_ := Aside0.mk (hbox); have n2_ := Aside0.mk ((by rw [hg]; exact (below_size (by repeat (first | (with_reducible first | exact HB.out | apply below_alloc | apply pw_below_drewN | apply below_drew1) | exact HB.out))) : w.heap.size ≤ gb175)); have n3_ := Aside0.mk ((by rw [hg]; exact (below_size (by repeat (first | (with_reducible first | exact HB.out | apply below_alloc | apply pw_below_drewN | apply below_drew1) | exact HB.out))) : w.heap.size ≤ gb175)); clear HB; have HB := n0_; have BK175 := n1_; have GW175 := n2_; have GE175 := n3_; clear n0_ n1_ n2_ n3_; clear hb hbox hg) | ((with_reducible refine gate_callee (f := 11) rfl ?_); refine goesL_ (some 23) rfl rfl Try.func11 (by kernel_rfl) rfl #[.slice A0 l0.length c0] rfl (by (try simp only [List.map_toArray, List.map_cons, List.map_nil]); first | done | rfl | (simp only [List.length_drop, List.length_take]; rfl)) ?_; (with_reducible refine (undercroftlaw08_Of.calls k _ _ l0 t176 _ ?side1 ?side2 A4.out).mono ?_); (case side1 => repeat (first | exact (Kd.C_below HR0.out HB.out) | (with_reducible refine Kd.C_alloc ?_ _) | (with_reducible refine Kd.C_drewN ?_ _) | (with_reducible refine Kd.C_drew ?_))); (case side2 => exact HC0.out); rintro e w13 ⟨v177, rfl, ho0, hb⟩; refine ⟨_, rfl, ?_⟩; have n0_ := Aside0.mk (Kd.R_lower ho0 (below_size (by repeat (first | (with_reducible first | exact HB.out | apply below_alloc | apply pw_below_drewN | apply below_drew1 | refine below_set ?_ GE175.out) | exact HB.out)))); have n1_ := Aside0.mk (blk_below (g := gb175) (o := .cells #[.string a1_0, .int .i64 a1_1] 37 (0, 0)) (by (with_reducible repeat (first | refine blk_drewN ?_ _ | refine blk_drew ?_ | refine blk_alloc ?_ _)); exact BK175.out) hb); have n2_ := Aside0.mk (below_step (by repeat (first | (with_reducible first | exact HB.out | apply below_alloc | apply pw_below_drewN | apply below_drew1 | refine below_set ?_ GE175.out) | exact HB.out)) hb); clear BK175; clear HB; have HO178 := n0_; have BK175 := n1_; have HB := n2_; clear n0_ n1_ n2_; (try clear hb); (try clear hb2); (try clear hk); (try clear hi); (try clear ho0); obtain ⟨Ao14, co14, eo14⟩ := Kd.R_slice HO178.out; subst eo14) | ((with_reducible refine gate_callee (f := 15) rfl ?_); refine goesL_ (some 27) rfl rfl Try.func15 (by kernel_rfl) rfl #[.slice Ao14 t176.length co14, .string a2] rfl (by (try simp only [List.map_toArray, List.map_cons, List.map_nil]); first | done | rfl | (simp only [List.length_drop, List.length_take]; rfl)) ?_; (with_reducible refine (dir_Find.calls k _ _ t176 a2 t179 t180 t181 _ ?side1 ?side2 A5.out).mono ?_); (case side1 => repeat (first | exact (Kd.R_reads' HO178.out).2.2 | (with_reducible refine Kd.C_alloc ?_ _) | (with_reducible refine Kd.C_drewN ?_ _) | (with_reducible refine Kd.C_drew ?_))); (case side2 => exact (Kd.R_reads' HO178.out).2.1); rintro e w15 ⟨rfl, hb⟩; refine ⟨_, rfl, ?_⟩; have n0_ := Aside0.mk (Kd.R_below (by (with_reducible repeat (first | apply Kd.R_alloc | apply Kd.R_drewN | apply Kd.R_drew)); exact HO178.out) hb); have n1_ := Aside0.mk (blk_below (g := gb175) (o := .cells #[.string a1_0, .int .i64 a1_1] 37 (0, 0)) (by (with_reducible repeat (first | refine blk_drewN ?_ _ | refine blk_drew ?_ | refine blk_alloc ?_ _)); exact BK175.out) hb); have n2_ := Aside0.mk (below_step (by repeat (first | (with_reducible first | exact HB.out | apply below_alloc | apply pw_below_drewN | apply below_drew1 | refine below_set ?_ GE175.out) | exact HB.out)) hb); clear HO178; clear BK175; clear HB; have HO178 := n0_; have BK175 := n1_; have HB := n2_; clear n0_ n1_ n2_; (try clear hb); (try clear hb2); (try clear hk); (try clear hi)) | ((with_reducible refine gate_callee (f := 16) rfl ?_); refine goesL_ (some 34) rfl rfl Try.func16 (by kernel_rfl) rfl #[.slice A0 l0.length c0, .string a2] rfl (by (try simp only [List.map_toArray, List.map_cons, List.map_nil]); first | done | rfl | (simp only [List.length_drop, List.length_take]; rfl)) ?_; (with_reducible refine (undercroftref08_Find.calls k _ _ l0 a2 t182 t183 t184 _ ?side1 ?side2 A6.out).mono ?_); (case side1 => repeat (first | exact (Kd.C_below HR0.out HB.out) | (with_reducible refine Kd.C_alloc ?_ _) | (with_reducible refine Kd.C_drewN ?_ _) | (with_reducible refine Kd.C_drew ?_))); (case side2 => exact HC0.out); rintro e w16 ⟨rfl, hb⟩; refine ⟨_, rfl, ?_⟩; have n0_ := Aside0.mk (Kd.R_below (by (with_reducible repeat (first | apply Kd.R_alloc | apply Kd.R_drewN | apply Kd.R_drew)); exact HO178.out) hb); have n1_ := Aside0.mk (blk_below (g := gb175) (o := .cells #[.string a1_0, .int .i64 a1_1] 37 (0, 0)) (by (with_reducible repeat (first | refine blk_drewN ?_ _ | refine blk_drew ?_ | refine blk_alloc ?_ _)); exact BK175.out) hb); have n2_ := Aside0.mk (below_step (by repeat (first | (with_reducible first | exact HB.out | apply below_alloc | apply pw_below_drewN | apply below_drew1 | refine below_set ?_ GE175.out) | exact HB.out)) hb); clear HO178; clear BK175; clear HB; have HO178 := n0_; have BK175 := n1_; have HB := n2_; clear n0_ n1_ n2_; (try clear hb); (try clear hb2); (try clear hk); (try clear hi); have hcz17_0 : w16.cell? ⟨gb175, 0, none⟩ = some (.string a1_0) := (blk_cell BK175.out 0).trans rfl; have hcz17_1 : w16.cell? ⟨gb175, 1, none⟩ = some (.int .i64 a1_1) := (blk_cell BK175.out 1).trans rfl; have hfz17_0 := blk_frozen BK175.out 0; have hfz17_1 := blk_frozen BK175.out 1) | ((with_reducible refine gate_callee (f := 12) rfl ?_); refine goesL_ (some 41) rfl rfl Try.func12 (by kernel_rfl) rfl #[.slice Ao14 t176.length co14, .agg #[.string a1_0, .int .i64 a1_1]] rfl (by (try simp only [List.map_toArray, List.map_cons, List.map_nil]); first | done | rfl | (simp only [List.length_drop, List.length_take]; rfl)) ?_; (with_reducible refine (dir_Add.calls k _ _ t176 a1_0 a1_1 t185 t188 _ ?side1 ?side2 A7.out).mono ?_); (case side1 => repeat (first | exact (Kd.R_reads' HO178.out).2.2 | (with_reducible refine Kd.C_alloc ?_ _) | (with_reducible refine Kd.C_drewN ?_ _) | (with_reducible refine Kd.C_drew ?_))); (case side2 => exact (Kd.R_reads' HO178.out).2.1); rintro e w18 ⟨v186, rfl, ho0, hb⟩; refine ⟨_, rfl, ?_⟩; have n0_ := Aside0.mk (Kd.R_elder' (by (with_reducible repeat (first | apply Kd.R_alloc | apply Kd.R_drewN | apply Kd.R_drew)); exact HO178.out) (Kd.R_base ho0) hb); have n1_ := Aside0.mk (Kd.R_lower (Kd.R_new' ho0 (Kd.R_lt (by (with_reducible repeat (first | apply Kd.R_alloc | apply Kd.R_drewN | apply Kd.R_drew)); exact HO178.out))) (below_size (by repeat (first | (with_reducible first | exact HB.out | apply below_alloc | apply pw_below_drewN | apply below_drew1 | refine below_set ?_ GE175.out) | exact HB.out)))); have n2_ := Aside0.mk (blk_below (g := gb175) (o := .cells #[.string a1_0, .int .i64 a1_1] 37 (0, 0)) (by (with_reducible repeat (first | refine blk_drewN ?_ _ | refine blk_drew ?_ | refine blk_alloc ?_ _)); exact BK175.out) hb); have n3_ := Aside0.mk (below_step (by repeat (first | (with_reducible first | exact HB.out | apply below_alloc | apply pw_below_drewN | apply below_drew1 | refine below_set ?_ GE175.out) | exact HB.out)) hb); clear HO178; clear BK175; clear HB; have HO178 := n0_; have HO187 := n1_; have BK175 := n2_; have HB := n3_; clear n0_ n1_ n2_ n3_; (try clear hb); (try clear hb2); (try clear hk); (try clear hi); (try clear ho0); have hcz19_0 : w18.cell? ⟨gb175, 0, none⟩ = some (.string a1_0) := (blk_cell BK175.out 0).trans rfl; have hcz19_1 : w18.cell? ⟨gb175, 1, none⟩ = some (.int .i64 a1_1) := (blk_cell BK175.out 1).trans rfl; have hfz19_0 := blk_frozen BK175.out 0; have hfz19_1 := blk_frozen BK175.out 1) | ((with_reducible refine gate_callee (f := 14) rfl ?_); refine goesL_ (some 47) rfl rfl Try.func14 (by kernel_rfl) rfl #[.slice A0 l0.length c0, .agg #[.string a1_0, .int .i64 a1_1]] rfl (by (try simp only [List.map_toArray, List.map_cons, List.map_nil]); first | done | rfl | (simp only [List.length_drop, List.length_take]; rfl)) ?_; (with_reducible refine (undercroftref08_Add.calls k _ _ l0 a1_0 a1_1 t189 t192 _ ?side1 ?side2 A8.out).mono ?_); (case side1 => repeat (first | exact (Kd.C_below HR0.out HB.out) | (with_reducible refine Kd.C_alloc ?_ _) | (with_reducible refine Kd.C_drewN ?_ _) | (with_reducible refine Kd.C_drew ?_))); (case side2 => exact HC0.out); rintro e w20 ⟨v190, rfl, ho0, hb⟩; refine ⟨_, rfl, ?_⟩; have n0_ := Aside0.mk (Kd.R_below (by (with_reducible repeat (first | apply Kd.R_alloc | apply Kd.R_drewN | apply Kd.R_drew)); exact HO178.out) hb); have n1_ := Aside0.mk (Kd.R_below (by (with_reducible repeat (first | apply Kd.R_alloc | apply Kd.R_drewN | apply Kd.R_drew)); exact HO187.out) hb); have n2_ := Aside0.mk (Kd.R_lower (Kd.R_newB ho0 (g := gb175) (o := .cells #[.string a1_0, .int .i64 a1_1] 37 (0, 0)) (by (with_reducible repeat (first | refine blk_drewN ?_ _ | refine blk_drew ?_ | refine blk_alloc ?_ _)); exact BK175.out)) (below_size (by repeat (first | (with_reducible first | exact HB.out | apply below_alloc | apply pw_below_drewN | apply below_drew1 | refine below_set ?_ GE175.out) | exact HB.out)))); have n3_ := Aside0.mk (blk_below (g := gb175) (o := .cells #[.string a1_0, .int .i64 a1_1] 37 (0, 0)) (by (with_reducible repeat (first | refine blk_drewN ?_ _ | refine blk_drew ?_ | refine blk_alloc ?_ _)); exact BK175.out) hb); have n4_ := Aside0.mk (below_step (by repeat (first | (with_reducible first | exact HB.out | apply below_alloc | apply pw_below_drewN | apply below_drew1 | refine below_set ?_ GE175.out) | exact HB.out)) hb); clear HO178; clear HO187; clear BK175; clear HB; have HO178 := n0_; have HO187 := n1_; have HO191 := n2_; have BK175 := n3_; have HB := n4_; clear n0_ n1_ n2_ n3_ n4_; (try clear hb); (try clear hb2); (try clear hk); (try clear hi); (try clear ho0)) | ((with_reducible refine gate_callee (f := 17) rfl ?_); refine goesL_ (some 53) rfl rfl Try.func17 (by kernel_rfl) rfl #[.slice Ao14 t176.length co14, .string a2] rfl (by (try simp only [List.map_toArray, List.map_cons, List.map_nil]); first | done | rfl | (simp only [List.length_drop, List.length_take]; rfl)) ?_; (with_reducible refine (dir_Remove.calls k _ _ t176 a2 t193 t194 _ ?side1 ?side2 A9.out).mono ?_); (case side1 => repeat (first | exact (Kd.R_reads' HO178.out).2.2 | (with_reducible refine Kd.C_alloc ?_ _) | (with_reducible refine Kd.C_drewN ?_ _) | (with_reducible refine Kd.C_drew ?_))); (case side2 => exact (Kd.R_reads' HO178.out).2.1); rintro e w21 ⟨v195, rfl, ho0, hb⟩; refine ⟨_, rfl, ?_⟩; have n0_ := Aside0.mk (Kd.R_elder' (by (with_reducible repeat (first | apply Kd.R_alloc | apply Kd.R_drewN | apply Kd.R_drew)); exact HO178.out) (Kd.R_base ho0) hb); have n1_ := Aside0.mk (Kd.R_elder' (by (with_reducible repeat (first | apply Kd.R_alloc | apply Kd.R_drewN | apply Kd.R_drew)); exact HO187.out) (Kd.R_base ho0) hb); have n2_ := Aside0.mk (Kd.R_below (by (with_reducible repeat (first | apply Kd.R_alloc | apply Kd.R_drewN | apply Kd.R_drew)); exact HO191.out) hb); have n3_ := Aside0.mk (Kd.R_lower (Kd.R_new' (Kd.R_new' ho0 (Kd.R_lt (by (with_reducible repeat (first | apply Kd.R_alloc | apply Kd.R_drewN | apply Kd.R_drew)); exact HO178.out))) (Kd.R_lt (by (with_reducible repeat (first | apply Kd.R_alloc | apply Kd.R_drewN | apply Kd.R_drew)); exact HO187.out))) (below_size (by repeat (first | (with_reducible first | exact HB.out | apply below_alloc | apply pw_below_drewN | apply below_drew1 | refine below_set ?_ GE175.out) | exact HB.out)))); have n4_ := Aside0.mk (blk_below (g := gb175) (o := .cells #[.string a1_0, .int .i64 a1_1] 37 (0, 0)) (by (with_reducible repeat (first | refine blk_drewN ?_ _ | refine blk_drew ?_ | refine blk_alloc ?_ _)); exact BK175.out) hb); have n5_ := Aside0.mk (below_step (by repeat (first | (with_reducible first | exact HB.out | apply below_alloc | apply pw_below_drewN | apply below_drew1 | refine below_set ?_ GE175.out) | exact HB.out)) hb); clear HO178; clear HO187; clear HO191; clear BK175; clear HB; have HO178 := n0_; have HO187 := n1_; have HO191 := n2_; have HO196 := n3_; have BK175 := n4_; have HB := n5_; clear n0_ n1_ n2_ n3_ n4_ n5_; (try clear hb); (try clear hb2); (try clear hk); (try clear hi); (try clear ho0)) | ((with_reducible refine gate_callee (f := 18) rfl ?_); refine goesL_ (some 59) rfl rfl Try.func18 (by kernel_rfl) rfl #[.slice A0 l0.length c0, .string a2] rfl (by (try simp only [List.map_toArray, List.map_cons, List.map_nil]); first | done | rfl | (simp only [List.length_drop, List.length_take]; rfl)) ?_; (with_reducible refine (undercroftref08_Remove.calls k _ _ l0 a2 t197 t198 _ ?side1 ?side2 A10.out).mono ?_); (case side1 => repeat (first | exact (Kd.C_below HR0.out HB.out) | (with_reducible refine Kd.C_alloc ?_ _) | (with_reducible refine Kd.C_drewN ?_ _) | (with_reducible refine Kd.C_drew ?_))); (case side2 => exact HC0.out); rintro e w22 ⟨v199, rfl, ho0, hb⟩; refine ⟨_, rfl, ?_⟩; have n0_ := Aside0.mk (Kd.R_below (by (with_reducible repeat (first | apply Kd.R_alloc | apply Kd.R_drewN | apply Kd.R_drew)); exact HO178.out) hb); have n1_ := Aside0.mk (Kd.R_below (by (with_reducible repeat (first | apply Kd.R_alloc | apply Kd.R_drewN | apply Kd.R_drew)); exact HO187.out) hb); have n2_ := Aside0.mk (Kd.R_elder' (by (with_reducible repeat (first | apply Kd.R_alloc | apply Kd.R_drewN | apply Kd.R_drew)); exact HO191.out) (Kd.R_base ho0) hb); have n3_ := Aside0.mk (Kd.R_below (by (with_reducible repeat (first | apply Kd.R_alloc | apply Kd.R_drewN | apply Kd.R_drew)); exact HO196.out) hb); have n4_ := Aside0.mk (Kd.R_lower (Kd.R_newB (Kd.R_new' ho0 (Kd.R_lt (by (with_reducible repeat (first | apply Kd.R_alloc | apply Kd.R_drewN | apply Kd.R_drew)); exact HO191.out))) (g := gb175) (o := .cells #[.string a1_0, .int .i64 a1_1] 37 (0, 0)) (by (with_reducible repeat (first | refine blk_drewN ?_ _ | refine blk_drew ?_ | refine blk_alloc ?_ _)); exact BK175.out)) (below_size (by repeat (first | (with_reducible first | exact HB.out | apply below_alloc | apply pw_below_drewN | apply below_drew1 | refine below_set ?_ GE175.out) | exact HB.out)))); have n5_ := Aside0.mk (blk_below (g := gb175) (o := .cells #[.string a1_0, .int .i64 a1_1] 37 (0, 0)) (by (with_reducible repeat (first | refine blk_drewN ?_ _ | refine blk_drew ?_ | refine blk_alloc ?_ _)); exact BK175.out) hb); have n6_ := Aside0.mk (below_step (by repeat (first | (with_reducible first | exact HB.out | apply below_alloc | apply pw_below_drewN | apply below_drew1 | refine below_set ?_ GE175.out) | exact HB.out)) hb); clear HO178; clear HO187; clear HO191; clear HO196; clear BK175; clear HB; have HO178 := n0_; have HO187 := n1_; have HO191 := n2_; have HO196 := n3_; have HO200 := n4_; have BK175 := n5_; have HB := n6_; clear n0_ n1_ n2_ n3_ n4_ n5_ n6_; (try clear hb); (try clear hb2); (try clear hk); (try clear hi); (try clear ho0)))
  (try simp only [Act.put, List.setIfInBounds_toArray, List.set_cons_zero, List.set_cons_succ])
  go_cut [99] (fun v99 wc => ∃ (kq : Nat) (x99_10 : Bool), v99 = .bool x99_10 ∧ Aside0 (undercroftlaw08_DirTells.j0 kq l0 a2 t176 x99_10 = some r) ∧ Aside0 (kq ≤ k) ∧ Aside0 (Kd.R k34 34 wc w.heap.size (fun _ => True) (.slice Ao14 t176.length co14) t176) ∧ Aside0 (wc.heap[gb175]? = some (.cells #[.string a1_0, .int .i64 a1_1] 37 (0, 0))) ∧ Aside0 (Below w.heap.size w wc))
  case first =>
    have H := HC11.out
    clear HC11
    by_cases c23 : t179 = t182
    · rw [if_pos c23] at H
      have c23b0 : (t179 == t182) = true := beq_iff_eq.mpr c23
      have c23b1 : (t179 != t182) = false := bne_eq_false_iff_eq.mpr c23
      clear c23
      (first | rw [c23b0] | (simp only [i64_w, i32_w]; rw [c23b0]) | skip)
      by_cases c24 : (t180 != t183) = true
      · rw [if_pos c24] at H
        have c24b0 : (t180 != t183) = true := c24
        (try (have c24b1 : decide (t180 = t183) = false := by simpa using c24))
        (try (have c24b2 : (t180 == t183) = false := by simpa using c24))
        (try (have c24b3 : ¬ (t180 = t183) := by simpa using c24))
        clear c24
        have H' := Aside0.mk H
        clear H
        go_wp2
        go_meet
        case rel => exact ⟨_, (true), (by first | rfl | (simp; done) | (simp [*]; done)), H', ⟨by first | omega | exact Nat.le_refl _⟩, ⟨by (with_reducible repeat (first | apply Kd.R_alloc | apply Kd.R_drewN | apply Kd.R_drew)); exact Kd.R_mono HO178.out (fun _ hk => trivial)⟩, ⟨by (with_reducible repeat (first | refine blk_drewN ?_ _ | refine blk_drew ?_ | refine blk_alloc ?_ _)); exact BK175.out⟩, ⟨by repeat (first | (with_reducible first | exact HB.out | apply below_alloc | apply pw_below_drewN | apply below_drew1 | refine below_set ?_ GE175.out) | exact HB.out)⟩⟩
      · rw [if_neg c24] at H
        have c24b0 : (t180 != t183) = false := by simpa using c24
        (try (have c24b1 : decide (t180 = t183) = true := by simpa using c24))
        (try (have c24b2 : (t180 == t183) = true := by simpa using c24))
        clear c24
        replace H := Option.bind_eq_some_iff.mp H
        obtain ⟨t201, A250, H⟩ := H
        replace H : (if t201 = t184 then ((undercroftlaw08_Alike.f k t185 t189).bind fun t202 => (if t202 = 0 then ((undercroftlaw08_num.f t188).bind fun t203 => (if t203 = t192 then ((undercroftlaw08_Alike.f k t193 t197).bind fun t204 => (if t204 = 0 then ((undercroftlaw08_num.f t194).bind fun t205 => (undercroftlaw08_DirTells.j0 k l0 a2 t176 (t205 != t198))) else (undercroftlaw08_DirTells.j0 k l0 a2 t176 true))) else (undercroftlaw08_DirTells.j0 k l0 a2 t176 true))) else (undercroftlaw08_DirTells.j0 k l0 a2 t176 true))) else (undercroftlaw08_DirTells.j0 k l0 a2 t176 true)) = some r := H
        have A25 := Aside0.mk A250
        clear A250
        by_cases c26 : t201 = t184
        · rw [if_pos c26] at H
          have c26b0 : (t201 == t184) = true := beq_iff_eq.mpr c26
          have c26b1 : (t201 != t184) = false := bne_eq_false_iff_eq.mpr c26
          clear c26
          replace H := Option.bind_eq_some_iff.mp H
          obtain ⟨t202, A270, H⟩ := H
          replace H : (if t202 = 0 then ((undercroftlaw08_num.f t188).bind fun t203 => (if t203 = t192 then ((undercroftlaw08_Alike.f k t193 t197).bind fun t204 => (if t204 = 0 then ((undercroftlaw08_num.f t194).bind fun t205 => (undercroftlaw08_DirTells.j0 k l0 a2 t176 (t205 != t198))) else (undercroftlaw08_DirTells.j0 k l0 a2 t176 true))) else (undercroftlaw08_DirTells.j0 k l0 a2 t176 true))) else (undercroftlaw08_DirTells.j0 k l0 a2 t176 true)) = some r := H
          have A27 := Aside0.mk A270
          clear A270
          by_cases c28 : t202 = 0
          · rw [if_pos c28] at H
            have c28b0 : (t202 == 0) = true := beq_iff_eq.mpr c28
            have c28b1 : (t202 != 0) = false := bne_eq_false_iff_eq.mpr c28
            clear c28
            replace H := Option.bind_eq_some_iff.mp H
            obtain ⟨t203, A290, H⟩ := H
            replace H : (if t203 = t192 then ((undercroftlaw08_Alike.f k t193 t197).bind fun t204 => (if t204 = 0 then ((undercroftlaw08_num.f t194).bind fun t205 => (undercroftlaw08_DirTells.j0 k l0 a2 t176 (t205 != t198))) else (undercroftlaw08_DirTells.j0 k l0 a2 t176 true))) else (undercroftlaw08_DirTells.j0 k l0 a2 t176 true)) = some r := H
            have A29 := Aside0.mk A290
            clear A290
            by_cases c30 : t203 = t192
            · rw [if_pos c30] at H
              have c30b0 : (t203 == t192) = true := beq_iff_eq.mpr c30
              have c30b1 : (t203 != t192) = false := bne_eq_false_iff_eq.mpr c30
              clear c30
              replace H := Option.bind_eq_some_iff.mp H
              obtain ⟨t204, A310, H⟩ := H
              replace H : (if t204 = 0 then ((undercroftlaw08_num.f t194).bind fun t205 => (undercroftlaw08_DirTells.j0 k l0 a2 t176 (t205 != t198))) else (undercroftlaw08_DirTells.j0 k l0 a2 t176 true)) = some r := H
              have A31 := Aside0.mk A310
              clear A310
              by_cases c32 : t204 = 0
              · rw [if_pos c32] at H
                have c32b0 : (t204 == 0) = true := beq_iff_eq.mpr c32
                have c32b1 : (t204 != 0) = false := bne_eq_false_iff_eq.mpr c32
                clear c32
                replace H := Option.bind_eq_some_iff.mp H
                obtain ⟨t205, A330, H⟩ := H
                replace H : (undercroftlaw08_DirTells.j0 k l0 a2 t176 (t205 != t198)) = some r := H
                have A33 := Aside0.mk A330
                clear A330
                have H' := Aside0.mk H
                clear H
                go_wp2_with (first | (go_at_call 9; (with_reducible refine (undercroftlaw08_num.calls t181 t201 _ A25.out).mono ?_); rintro e w' ⟨rfl, ⟨nd, rfl⟩⟩; obtain ⟨Ao34, co34, eo34⟩ := Kd.R_slice HO187.out; subst eo34; obtain ⟨Ao35, co35, eo35⟩ := Kd.R_slice HO191.out; subst eo35) | (go_at_call 13; (with_reducible refine (undercroftlaw08_Alike.calls k _ _ t185 _ _ t189 t202 _ ?side1 ?side2 ?side3 ?side4 A27.out).mono ?_); (case side1 => repeat (first | exact (Kd.R_reads' HO187.out).2.2 | (with_reducible refine Kd.C_alloc ?_ _) | (with_reducible refine Kd.C_drewN ?_ _) | (with_reducible refine Kd.C_drew ?_))); (case side2 => exact (Kd.R_reads' HO187.out).2.1); (case side3 => repeat (first | exact (Kd.R_reads' HO191.out).2.2 | (with_reducible refine Kd.C_alloc ?_ _) | (with_reducible refine Kd.C_drewN ?_ _) | (with_reducible refine Kd.C_drew ?_))); (case side4 => exact (Kd.R_reads' HO191.out).2.1); rintro e w' ⟨rfl, ⟨nd, rfl⟩⟩) | (go_at_call 9; (with_reducible refine (undercroftlaw08_num.calls t188 t203 _ A29.out).mono ?_); rintro e w' ⟨rfl, ⟨nd, rfl⟩⟩; obtain ⟨Ao36, co36, eo36⟩ := Kd.R_slice HO196.out; subst eo36; obtain ⟨Ao37, co37, eo37⟩ := Kd.R_slice HO200.out; subst eo37) | (go_at_call 13; (with_reducible refine (undercroftlaw08_Alike.calls k _ _ t193 _ _ t197 t204 _ ?side1 ?side2 ?side3 ?side4 A31.out).mono ?_); (case side1 => repeat (first | exact (Kd.R_reads' HO196.out).2.2 | (with_reducible refine Kd.C_alloc ?_ _) | (with_reducible refine Kd.C_drewN ?_ _) | (with_reducible refine Kd.C_drew ?_))); (case side2 => exact (Kd.R_reads' HO196.out).2.1); (case side3 => repeat (first | exact (Kd.R_reads' HO200.out).2.2 | (with_reducible refine Kd.C_alloc ?_ _) | (with_reducible refine Kd.C_drewN ?_ _) | (with_reducible refine Kd.C_drew ?_))); (case side4 => exact (Kd.R_reads' HO200.out).2.1); rintro e w' ⟨rfl, ⟨nd, rfl⟩⟩) | (go_at_call 9; (with_reducible refine (undercroftlaw08_num.calls t194 t205 _ A33.out).mono ?_); rintro e w' ⟨rfl, ⟨nd, rfl⟩⟩))
                go_meet
                case rel => exact ⟨_, ((t205 != t198)), (by first | rfl | (simp; done) | (simp [*]; done)), H', ⟨by first | omega | exact Nat.le_refl _⟩, ⟨by (with_reducible repeat (first | apply Kd.R_alloc | apply Kd.R_drewN | apply Kd.R_drew)); exact Kd.R_mono HO178.out (fun _ hk => trivial)⟩, ⟨by (with_reducible repeat (first | refine blk_drewN ?_ _ | refine blk_drew ?_ | refine blk_alloc ?_ _)); exact BK175.out⟩, ⟨by repeat (first | (with_reducible first | exact HB.out | apply below_alloc | apply pw_below_drewN | apply below_drew1 | refine below_set ?_ GE175.out) | exact HB.out)⟩⟩
              · rw [if_neg c32] at H
                have c32b0 : (t204 == 0) = false := beq_eq_false_iff_ne.mpr c32
                have c32b1 : (t204 != 0) = true := bne_iff_ne.mpr c32
                have H' := Aside0.mk H
                clear H
                go_wp2_with (first | (go_at_call 9; (with_reducible refine (undercroftlaw08_num.calls t181 t201 _ A25.out).mono ?_); rintro e w' ⟨rfl, ⟨nd, rfl⟩⟩; obtain ⟨Ao38, co38, eo38⟩ := Kd.R_slice HO187.out; subst eo38; obtain ⟨Ao39, co39, eo39⟩ := Kd.R_slice HO191.out; subst eo39) | (go_at_call 13; (with_reducible refine (undercroftlaw08_Alike.calls k _ _ t185 _ _ t189 t202 _ ?side1 ?side2 ?side3 ?side4 A27.out).mono ?_); (case side1 => repeat (first | exact (Kd.R_reads' HO187.out).2.2 | (with_reducible refine Kd.C_alloc ?_ _) | (with_reducible refine Kd.C_drewN ?_ _) | (with_reducible refine Kd.C_drew ?_))); (case side2 => exact (Kd.R_reads' HO187.out).2.1); (case side3 => repeat (first | exact (Kd.R_reads' HO191.out).2.2 | (with_reducible refine Kd.C_alloc ?_ _) | (with_reducible refine Kd.C_drewN ?_ _) | (with_reducible refine Kd.C_drew ?_))); (case side4 => exact (Kd.R_reads' HO191.out).2.1); rintro e w' ⟨rfl, ⟨nd, rfl⟩⟩) | (go_at_call 9; (with_reducible refine (undercroftlaw08_num.calls t188 t203 _ A29.out).mono ?_); rintro e w' ⟨rfl, ⟨nd, rfl⟩⟩; obtain ⟨Ao40, co40, eo40⟩ := Kd.R_slice HO196.out; subst eo40; obtain ⟨Ao41, co41, eo41⟩ := Kd.R_slice HO200.out; subst eo41) | (go_at_call 13; (with_reducible refine (undercroftlaw08_Alike.calls k _ _ t193 _ _ t197 t204 _ ?side1 ?side2 ?side3 ?side4 A31.out).mono ?_); (case side1 => repeat (first | exact (Kd.R_reads' HO196.out).2.2 | (with_reducible refine Kd.C_alloc ?_ _) | (with_reducible refine Kd.C_drewN ?_ _) | (with_reducible refine Kd.C_drew ?_))); (case side2 => exact (Kd.R_reads' HO196.out).2.1); (case side3 => repeat (first | exact (Kd.R_reads' HO200.out).2.2 | (with_reducible refine Kd.C_alloc ?_ _) | (with_reducible refine Kd.C_drewN ?_ _) | (with_reducible refine Kd.C_drew ?_))); (case side4 => exact (Kd.R_reads' HO200.out).2.1); rintro e w' ⟨rfl, ⟨nd, rfl⟩⟩))
                go_meet
                case rel => exact ⟨_, (true), (by first | rfl | (simp; done) | (simp [*]; done)), H', ⟨by first | omega | exact Nat.le_refl _⟩, ⟨by (with_reducible repeat (first | apply Kd.R_alloc | apply Kd.R_drewN | apply Kd.R_drew)); exact Kd.R_mono HO178.out (fun _ hk => trivial)⟩, ⟨by (with_reducible repeat (first | refine blk_drewN ?_ _ | refine blk_drew ?_ | refine blk_alloc ?_ _)); exact BK175.out⟩, ⟨by repeat (first | (with_reducible first | exact HB.out | apply below_alloc | apply pw_below_drewN | apply below_drew1 | refine below_set ?_ GE175.out) | exact HB.out)⟩⟩
            · rw [if_neg c30] at H
              have c30b0 : (t203 == t192) = false := beq_eq_false_iff_ne.mpr c30
              have c30b1 : (t203 != t192) = true := bne_iff_ne.mpr c30
              have H' := Aside0.mk H
              clear H
              go_wp2_with (first | (go_at_call 9; (with_reducible refine (undercroftlaw08_num.calls t181 t201 _ A25.out).mono ?_); rintro e w' ⟨rfl, ⟨nd, rfl⟩⟩; obtain ⟨Ao42, co42, eo42⟩ := Kd.R_slice HO187.out; subst eo42; obtain ⟨Ao43, co43, eo43⟩ := Kd.R_slice HO191.out; subst eo43) | (go_at_call 13; (with_reducible refine (undercroftlaw08_Alike.calls k _ _ t185 _ _ t189 t202 _ ?side1 ?side2 ?side3 ?side4 A27.out).mono ?_); (case side1 => repeat (first | exact (Kd.R_reads' HO187.out).2.2 | (with_reducible refine Kd.C_alloc ?_ _) | (with_reducible refine Kd.C_drewN ?_ _) | (with_reducible refine Kd.C_drew ?_))); (case side2 => exact (Kd.R_reads' HO187.out).2.1); (case side3 => repeat (first | exact (Kd.R_reads' HO191.out).2.2 | (with_reducible refine Kd.C_alloc ?_ _) | (with_reducible refine Kd.C_drewN ?_ _) | (with_reducible refine Kd.C_drew ?_))); (case side4 => exact (Kd.R_reads' HO191.out).2.1); rintro e w' ⟨rfl, ⟨nd, rfl⟩⟩) | (go_at_call 9; (with_reducible refine (undercroftlaw08_num.calls t188 t203 _ A29.out).mono ?_); rintro e w' ⟨rfl, ⟨nd, rfl⟩⟩))
              go_meet
              case rel => exact ⟨_, (true), (by first | rfl | (simp; done) | (simp [*]; done)), H', ⟨by first | omega | exact Nat.le_refl _⟩, ⟨by (with_reducible repeat (first | apply Kd.R_alloc | apply Kd.R_drewN | apply Kd.R_drew)); exact Kd.R_mono HO178.out (fun _ hk => trivial)⟩, ⟨by (with_reducible repeat (first | refine blk_drewN ?_ _ | refine blk_drew ?_ | refine blk_alloc ?_ _)); exact BK175.out⟩, ⟨by repeat (first | (with_reducible first | exact HB.out | apply below_alloc | apply pw_below_drewN | apply below_drew1 | refine below_set ?_ GE175.out) | exact HB.out)⟩⟩
          · rw [if_neg c28] at H
            have c28b0 : (t202 == 0) = false := beq_eq_false_iff_ne.mpr c28
            have c28b1 : (t202 != 0) = true := bne_iff_ne.mpr c28
            have H' := Aside0.mk H
            clear H
            go_wp2_with (first | (go_at_call 9; (with_reducible refine (undercroftlaw08_num.calls t181 t201 _ A25.out).mono ?_); rintro e w' ⟨rfl, ⟨nd, rfl⟩⟩; obtain ⟨Ao44, co44, eo44⟩ := Kd.R_slice HO187.out; subst eo44; obtain ⟨Ao45, co45, eo45⟩ := Kd.R_slice HO191.out; subst eo45) | (go_at_call 13; (with_reducible refine (undercroftlaw08_Alike.calls k _ _ t185 _ _ t189 t202 _ ?side1 ?side2 ?side3 ?side4 A27.out).mono ?_); (case side1 => repeat (first | exact (Kd.R_reads' HO187.out).2.2 | (with_reducible refine Kd.C_alloc ?_ _) | (with_reducible refine Kd.C_drewN ?_ _) | (with_reducible refine Kd.C_drew ?_))); (case side2 => exact (Kd.R_reads' HO187.out).2.1); (case side3 => repeat (first | exact (Kd.R_reads' HO191.out).2.2 | (with_reducible refine Kd.C_alloc ?_ _) | (with_reducible refine Kd.C_drewN ?_ _) | (with_reducible refine Kd.C_drew ?_))); (case side4 => exact (Kd.R_reads' HO191.out).2.1); rintro e w' ⟨rfl, ⟨nd, rfl⟩⟩))
            go_meet
            case rel => exact ⟨_, (true), (by first | rfl | (simp; done) | (simp [*]; done)), H', ⟨by first | omega | exact Nat.le_refl _⟩, ⟨by (with_reducible repeat (first | apply Kd.R_alloc | apply Kd.R_drewN | apply Kd.R_drew)); exact Kd.R_mono HO178.out (fun _ hk => trivial)⟩, ⟨by (with_reducible repeat (first | refine blk_drewN ?_ _ | refine blk_drew ?_ | refine blk_alloc ?_ _)); exact BK175.out⟩, ⟨by repeat (first | (with_reducible first | exact HB.out | apply below_alloc | apply pw_below_drewN | apply below_drew1 | refine below_set ?_ GE175.out) | exact HB.out)⟩⟩
        · rw [if_neg c26] at H
          have c26b0 : (t201 == t184) = false := beq_eq_false_iff_ne.mpr c26
          have c26b1 : (t201 != t184) = true := bne_iff_ne.mpr c26
          have H' := Aside0.mk H
          clear H
          go_wp2_with (first | (go_at_call 9; (with_reducible refine (undercroftlaw08_num.calls t181 t201 _ A25.out).mono ?_); rintro e w' ⟨rfl, ⟨nd, rfl⟩⟩))
          go_meet
          case rel => exact ⟨_, (true), (by first | rfl | (simp; done) | (simp [*]; done)), H', ⟨by first | omega | exact Nat.le_refl _⟩, ⟨by (with_reducible repeat (first | apply Kd.R_alloc | apply Kd.R_drewN | apply Kd.R_drew)); exact Kd.R_mono HO178.out (fun _ hk => trivial)⟩, ⟨by (with_reducible repeat (first | refine blk_drewN ?_ _ | refine blk_drew ?_ | refine blk_alloc ?_ _)); exact BK175.out⟩, ⟨by repeat (first | (with_reducible first | exact HB.out | apply below_alloc | apply pw_below_drewN | apply below_drew1 | refine below_set ?_ GE175.out) | exact HB.out)⟩⟩
    · rw [if_neg c23] at H
      have c23b0 : (t179 == t182) = false := beq_eq_false_iff_ne.mpr c23
      have c23b1 : (t179 != t182) = true := bne_iff_ne.mpr c23
      (first | rw [c23b0] | (simp only [i64_w, i32_w]; rw [c23b0]) | skip)
      have H' := Aside0.mk H
      clear H
      go_wp2
      go_meet
      case rel => exact ⟨_, (true), (by first | rfl | (simp; done) | (simp [*]; done)), H', ⟨by first | omega | exact Nat.le_refl _⟩, ⟨by (with_reducible repeat (first | apply Kd.R_alloc | apply Kd.R_drewN | apply Kd.R_drew)); exact Kd.R_mono HO178.out (fun _ hk => trivial)⟩, ⟨by (with_reducible repeat (first | refine blk_drewN ?_ _ | refine blk_drew ?_ | refine blk_alloc ?_ _)); exact BK175.out⟩, ⟨by repeat (first | (with_reducible first | exact HB.out | apply below_alloc | apply pw_below_drewN | apply below_drew1 | refine below_set ?_ GE175.out) | exact HB.out)⟩⟩
  case rest =>
    clear HC11
    try clear c1
    try clear c2
    try clear p2
    try clear c3
    try clear c5
    try clear c11
    try clear c12
    try clear c14
    try clear c15
    try clear c16
    try clear c17
    try clear c18
    try clear c23
    try clear c23b0
    try clear c23b1
    try clear c24
    try clear c24b0
    try clear c24b1
    try clear c24b2
    try clear c26
    try clear c26b0
    try clear c26b1
    try clear c28
    try clear c28b0
    try clear c28b1
    try clear c30
    try clear c30b0
    try clear c30b1
    try clear c32
    try clear c32b0
    try clear c32b1
    try clear hcz17_0
    try clear hcz17_1
    try clear hcz19_0
    try clear hcz19_1
    try clear hfz17_0
    try clear hfz17_1
    try clear hfz19_0
    try clear hfz19_1
    obtain ⟨kq, x99_10, rfl, HA, HJ10, HO_7, BK175, HB⟩ := hcut
    cases kq with
    | zero => exact absurd HA.out (by simp [undercroftlaw08_DirTells.j0])
    | succ kj10 =>
      have H := HA.out
      clear HA
      simp only [undercroftlaw08_DirTells.j0] at H
      by_cases c46 : x99_10 = true
      · subst c46
        have H1 : (some false) = some r := by rw [if_pos rfl] at H; exact H
        clear H
        have H := H1
        clear H1
        obtain rfl := Option.some.inj H
        go_wp2
        go_ret
        exact ⟨by first | rfl | (simp [errW_none, errW_some] <;> rfl) | (simp [*, errW_none, errW_some] <;> rfl), by repeat (first | (with_reducible first | exact HB.out | apply below_alloc | apply pw_below_drewN | apply below_drew1 | refine below_set ?_ GE175.out) | exact HB.out)⟩
      · replace c46 := Bool.eq_false_iff.mpr c46
        subst c46
        have H1 : ((dir_Check.f kj10 t176).bind fun t206 => ((undercroftlaw08_num.f t206).bind fun t207 => ((undercroftref08_Check.f kj10 l0).bind fun t208 => (if t207 = t208 then ((dir_Name.f a2).bind fun t209 => ((undercroftlaw08_num.f t209).bind fun t210 => ((undercroftref08_Name.f kj10 a2).bind fun t211 => (if t210 = t211 then ((undercroftlaw08_Alike.f kj10 t176 l0).bind fun t212 => (if t212 = 0 then ((undercroftlaw08_alive.f kj10).bind fun t213 => (some t213)) else (some false))) else (some false))))) else (some false))))) = some r := by rw [if_neg (show ¬ (false = true) by decide)] at H; exact H
        clear H
        have H := H1
        clear H1
        replace H := Option.bind_eq_some_iff.mp H
        obtain ⟨t206, A470, H⟩ := H
        replace H : ((undercroftlaw08_num.f t206).bind fun t207 => ((undercroftref08_Check.f kj10 l0).bind fun t208 => (if t207 = t208 then ((dir_Name.f a2).bind fun t209 => ((undercroftlaw08_num.f t209).bind fun t210 => ((undercroftref08_Name.f kj10 a2).bind fun t211 => (if t210 = t211 then ((undercroftlaw08_Alike.f kj10 t176 l0).bind fun t212 => (if t212 = 0 then ((undercroftlaw08_alive.f kj10).bind fun t213 => (some t213)) else (some false))) else (some false))))) else (some false)))) = some r := H
        have A47 := Aside0.mk A470
        clear A470
        replace H := Option.bind_eq_some_iff.mp H
        obtain ⟨t207, A480, H⟩ := H
        replace H : ((undercroftref08_Check.f kj10 l0).bind fun t208 => (if t207 = t208 then ((dir_Name.f a2).bind fun t209 => ((undercroftlaw08_num.f t209).bind fun t210 => ((undercroftref08_Name.f kj10 a2).bind fun t211 => (if t210 = t211 then ((undercroftlaw08_Alike.f kj10 t176 l0).bind fun t212 => (if t212 = 0 then ((undercroftlaw08_alive.f kj10).bind fun t213 => (some t213)) else (some false))) else (some false))))) else (some false))) = some r := H
        have A48 := Aside0.mk A480
        clear A480
        replace H := Option.bind_eq_some_iff.mp H
        obtain ⟨t208, A490, H⟩ := H
        replace H : (if t207 = t208 then ((dir_Name.f a2).bind fun t209 => ((undercroftlaw08_num.f t209).bind fun t210 => ((undercroftref08_Name.f kj10 a2).bind fun t211 => (if t210 = t211 then ((undercroftlaw08_Alike.f kj10 t176 l0).bind fun t212 => (if t212 = 0 then ((undercroftlaw08_alive.f kj10).bind fun t213 => (some t213)) else (some false))) else (some false))))) else (some false)) = some r := H
        have A49 := Aside0.mk A490
        clear A490
        by_cases c50 : t207 = t208
        · rw [if_pos c50] at H
          have c50b0 : (t207 == t208) = true := beq_iff_eq.mpr c50
          have c50b1 : (t207 != t208) = false := bne_eq_false_iff_eq.mpr c50
          clear c50
          replace H := Option.bind_eq_some_iff.mp H
          obtain ⟨t209, A510, H⟩ := H
          replace H : ((undercroftlaw08_num.f t209).bind fun t210 => ((undercroftref08_Name.f kj10 a2).bind fun t211 => (if t210 = t211 then ((undercroftlaw08_Alike.f kj10 t176 l0).bind fun t212 => (if t212 = 0 then ((undercroftlaw08_alive.f kj10).bind fun t213 => (some t213)) else (some false))) else (some false)))) = some r := H
          have A51 := Aside0.mk A510
          clear A510
          replace H := Option.bind_eq_some_iff.mp H
          obtain ⟨t210, A520, H⟩ := H
          replace H : ((undercroftref08_Name.f kj10 a2).bind fun t211 => (if t210 = t211 then ((undercroftlaw08_Alike.f kj10 t176 l0).bind fun t212 => (if t212 = 0 then ((undercroftlaw08_alive.f kj10).bind fun t213 => (some t213)) else (some false))) else (some false))) = some r := H
          have A52 := Aside0.mk A520
          clear A520
          replace H := Option.bind_eq_some_iff.mp H
          obtain ⟨t211, A530, H⟩ := H
          replace H : (if t210 = t211 then ((undercroftlaw08_Alike.f kj10 t176 l0).bind fun t212 => (if t212 = 0 then ((undercroftlaw08_alive.f kj10).bind fun t213 => (some t213)) else (some false))) else (some false)) = some r := H
          have A53 := Aside0.mk A530
          clear A530
          by_cases c54 : t210 = t211
          · rw [if_pos c54] at H
            have c54b0 : (t210 == t211) = true := beq_iff_eq.mpr c54
            have c54b1 : (t210 != t211) = false := bne_eq_false_iff_eq.mpr c54
            clear c54
            replace H := Option.bind_eq_some_iff.mp H
            obtain ⟨t212, A550, H⟩ := H
            replace H : (if t212 = 0 then ((undercroftlaw08_alive.f kj10).bind fun t213 => (some t213)) else (some false)) = some r := H
            have A55 := Aside0.mk A550
            clear A550
            by_cases c56 : t212 = 0
            · rw [if_pos c56] at H
              have c56b0 : (t212 == 0) = true := beq_iff_eq.mpr c56
              have c56b1 : (t212 != 0) = false := bne_eq_false_iff_eq.mpr c56
              clear c56
              replace H := Option.bind_eq_some_iff.mp H
              obtain ⟨t213, A570, H⟩ := H
              replace H : (some t213) = some r := H
              have A57 := Aside0.mk A570
              clear A570
              obtain rfl := Option.some.inj H
              go_wp2_with (first | ((with_reducible refine gate_callee (f := 10) rfl ?_); refine goesL_ (some 101) rfl rfl Try.func10 (by kernel_rfl) rfl #[.slice Ao14 t176.length co14] rfl (by (try simp only [List.map_toArray, List.map_cons, List.map_nil]); first | done | rfl | (simp only [List.length_drop, List.length_take]; rfl)) ?_; (with_reducible refine (dir_Check.calls kj10 _ _ t176 t206 _ ?side1 ?side2 A47.out).mono ?_); (case side1 => repeat (first | exact (Kd.R_reads' HO_7.out).2.2 | (with_reducible refine Kd.C_alloc ?_ _) | (with_reducible refine Kd.C_drewN ?_ _) | (with_reducible refine Kd.C_drew ?_))); (case side2 => exact (Kd.R_reads' HO_7.out).2.1); rintro e w58 ⟨rfl, hb⟩; refine ⟨_, rfl, ?_⟩; have n0_ := Aside0.mk (Kd.R_below (by (with_reducible repeat (first | apply Kd.R_alloc | apply Kd.R_drewN | apply Kd.R_drew)); exact HO_7.out) hb); have n1_ := Aside0.mk (blk_below (g := gb175) (o := .cells #[.string a1_0, .int .i64 a1_1] 37 (0, 0)) (by (with_reducible repeat (first | refine blk_drewN ?_ _ | refine blk_drew ?_ | refine blk_alloc ?_ _)); exact BK175.out) hb); have n2_ := Aside0.mk (below_step (by repeat (first | (with_reducible first | exact HB.out | apply below_alloc | apply pw_below_drewN | apply below_drew1 | refine below_set ?_ GE175.out) | exact HB.out)) hb); clear HO_7; clear BK175; clear HB; have HO_7 := n0_; have BK175 := n1_; have HB := n2_; clear n0_ n1_ n2_; (try clear hb); (try clear hb2); (try clear hk); (try clear hi)) | ((with_reducible refine gate_callee (f := 9) rfl ?_); refine goesL_ (some 102) rfl rfl Try.func9 (by kernel_rfl) rfl #[.int .i64 t206] rfl (by (try simp only [List.map_toArray, List.map_cons, List.map_nil]); first | done | rfl | (simp only [List.length_drop, List.length_take]; rfl)) ?_; (with_reducible refine (undercroftlaw08_num.calls t206 t207 _ A48.out).mono ?_); rintro e w' ⟨rfl, ⟨nd, rfl⟩⟩; refine ⟨_, rfl, ?_⟩) | ((with_reducible refine gate_callee (f := 8) rfl ?_); refine goesL_ (some 104) rfl rfl Try.func8 (by kernel_rfl) rfl #[.slice A0 l0.length c0] rfl (by (try simp only [List.map_toArray, List.map_cons, List.map_nil]); first | done | rfl | (simp only [List.length_drop, List.length_take]; rfl)) ?_; (with_reducible refine (undercroftref08_Check.calls kj10 _ _ l0 t208 _ ?side1 ?side2 A49.out).mono ?_); (case side1 => repeat (first | exact (Kd.C_below HR0.out (by repeat (first | (with_reducible first | exact HB.out | apply below_alloc | apply pw_below_drewN | apply below_drew1 | refine below_set ?_ GE175.out) | exact HB.out))) | (with_reducible refine Kd.C_alloc ?_ _) | (with_reducible refine Kd.C_drewN ?_ _) | (with_reducible refine Kd.C_drew ?_))); (case side2 => exact HC0.out); rintro e w59 ⟨rfl, hb⟩; refine ⟨_, rfl, ?_⟩; have n0_ := Aside0.mk (Kd.R_below (by (with_reducible repeat (first | apply Kd.R_alloc | apply Kd.R_drewN | apply Kd.R_drew)); exact HO_7.out) hb); have n1_ := Aside0.mk (blk_below (g := gb175) (o := .cells #[.string a1_0, .int .i64 a1_1] 37 (0, 0)) (by (with_reducible repeat (first | refine blk_drewN ?_ _ | refine blk_drew ?_ | refine blk_alloc ?_ _)); exact BK175.out) hb); have n2_ := Aside0.mk (below_step (by repeat (first | (with_reducible first | exact HB.out | apply below_alloc | apply pw_below_drewN | apply below_drew1 | refine below_set ?_ GE175.out) | exact HB.out)) hb); clear HO_7; clear BK175; clear HB; have HO_7 := n0_; have BK175 := n1_; have HB := n2_; clear n0_ n1_ n2_; (try clear hb); (try clear hb2); (try clear hk); (try clear hi)) | (go_at_call 19; (with_reducible refine (dir_Name.calls a2 t209 _ A51.out).mono ?_); rintro e w' ⟨rfl, ⟨nd, rfl⟩⟩) | (go_at_call 9; (with_reducible refine (undercroftlaw08_num.calls t209 t210 _ A52.out).mono ?_); rintro e w' ⟨rfl, ⟨nd, rfl⟩⟩) | (go_at_call 20; (with_reducible refine (undercroftref08_Name.calls kj10 a2 t211 _ A53.out).mono ?_); rintro e w' ⟨rfl, ⟨nd, rfl⟩⟩) | (go_at_call 13; (with_reducible refine (undercroftlaw08_Alike.calls kj10 _ _ t176 _ _ l0 t212 _ ?side1 ?side2 ?side3 ?side4 A55.out).mono ?_); (case side1 => repeat (first | exact (Kd.R_reads' HO_7.out).2.2 | (with_reducible refine Kd.C_alloc ?_ _) | (with_reducible refine Kd.C_drewN ?_ _) | (with_reducible refine Kd.C_drew ?_))); (case side2 => exact (Kd.R_reads' HO_7.out).2.1); (case side3 => repeat (first | exact (Kd.C_below HR0.out (by repeat (first | (with_reducible first | exact HB.out | apply below_alloc | apply pw_below_drewN | apply below_drew1 | refine below_set ?_ GE175.out) | exact HB.out))) | (with_reducible refine Kd.C_alloc ?_ _) | (with_reducible refine Kd.C_drewN ?_ _) | (with_reducible refine Kd.C_drew ?_))); (case side4 => exact HC0.out); rintro e w' ⟨rfl, ⟨nd, rfl⟩⟩) | (go_at_call 7; (with_reducible refine (undercroftlaw08_alive.calls kj10  t213 _ A57.out).mono ?_); rintro e w60 ⟨rfl, hb⟩; have n0_ := Aside0.mk (Kd.R_below (by (with_reducible repeat (first | apply Kd.R_alloc | apply Kd.R_drewN | apply Kd.R_drew)); exact HO_7.out) hb); have n1_ := Aside0.mk (blk_below (g := gb175) (o := .cells #[.string a1_0, .int .i64 a1_1] 37 (0, 0)) (by (with_reducible repeat (first | refine blk_drewN ?_ _ | refine blk_drew ?_ | refine blk_alloc ?_ _)); exact BK175.out) hb); have n2_ := Aside0.mk (below_step (by repeat (first | (with_reducible first | exact HB.out | apply below_alloc | apply pw_below_drewN | apply below_drew1 | refine below_set ?_ GE175.out) | exact HB.out)) hb); clear HO_7; clear BK175; clear HB; have HO_7 := n0_; have BK175 := n1_; have HB := n2_; clear n0_ n1_ n2_; (try clear hb); (try clear hb2); (try clear hk); (try clear hi)))
              go_ret
              exact ⟨by first | rfl | (simp [errW_none, errW_some] <;> rfl) | (simp [*, errW_none, errW_some] <;> rfl), by repeat (first | (with_reducible first | exact HB.out | apply below_alloc | apply pw_below_drewN | apply below_drew1 | refine below_set ?_ GE175.out) | exact HB.out)⟩
            · rw [if_neg c56] at H
              have c56b0 : (t212 == 0) = false := beq_eq_false_iff_ne.mpr c56
              have c56b1 : (t212 != 0) = true := bne_iff_ne.mpr c56
              obtain rfl := Option.some.inj H
              go_wp2_with (first | ((with_reducible refine gate_callee (f := 10) rfl ?_); refine goesL_ (some 101) rfl rfl Try.func10 (by kernel_rfl) rfl #[.slice Ao14 t176.length co14] rfl (by (try simp only [List.map_toArray, List.map_cons, List.map_nil]); first | done | rfl | (simp only [List.length_drop, List.length_take]; rfl)) ?_; (with_reducible refine (dir_Check.calls kj10 _ _ t176 t206 _ ?side1 ?side2 A47.out).mono ?_); (case side1 => repeat (first | exact (Kd.R_reads' HO_7.out).2.2 | (with_reducible refine Kd.C_alloc ?_ _) | (with_reducible refine Kd.C_drewN ?_ _) | (with_reducible refine Kd.C_drew ?_))); (case side2 => exact (Kd.R_reads' HO_7.out).2.1); rintro e w61 ⟨rfl, hb⟩; refine ⟨_, rfl, ?_⟩; have n0_ := Aside0.mk (Kd.R_below (by (with_reducible repeat (first | apply Kd.R_alloc | apply Kd.R_drewN | apply Kd.R_drew)); exact HO_7.out) hb); have n1_ := Aside0.mk (blk_below (g := gb175) (o := .cells #[.string a1_0, .int .i64 a1_1] 37 (0, 0)) (by (with_reducible repeat (first | refine blk_drewN ?_ _ | refine blk_drew ?_ | refine blk_alloc ?_ _)); exact BK175.out) hb); have n2_ := Aside0.mk (below_step (by repeat (first | (with_reducible first | exact HB.out | apply below_alloc | apply pw_below_drewN | apply below_drew1 | refine below_set ?_ GE175.out) | exact HB.out)) hb); clear HO_7; clear BK175; clear HB; have HO_7 := n0_; have BK175 := n1_; have HB := n2_; clear n0_ n1_ n2_; (try clear hb); (try clear hb2); (try clear hk); (try clear hi)) | ((with_reducible refine gate_callee (f := 9) rfl ?_); refine goesL_ (some 102) rfl rfl Try.func9 (by kernel_rfl) rfl #[.int .i64 t206] rfl (by (try simp only [List.map_toArray, List.map_cons, List.map_nil]); first | done | rfl | (simp only [List.length_drop, List.length_take]; rfl)) ?_; (with_reducible refine (undercroftlaw08_num.calls t206 t207 _ A48.out).mono ?_); rintro e w' ⟨rfl, ⟨nd, rfl⟩⟩; refine ⟨_, rfl, ?_⟩) | ((with_reducible refine gate_callee (f := 8) rfl ?_); refine goesL_ (some 104) rfl rfl Try.func8 (by kernel_rfl) rfl #[.slice A0 l0.length c0] rfl (by (try simp only [List.map_toArray, List.map_cons, List.map_nil]); first | done | rfl | (simp only [List.length_drop, List.length_take]; rfl)) ?_; (with_reducible refine (undercroftref08_Check.calls kj10 _ _ l0 t208 _ ?side1 ?side2 A49.out).mono ?_); (case side1 => repeat (first | exact (Kd.C_below HR0.out (by repeat (first | (with_reducible first | exact HB.out | apply below_alloc | apply pw_below_drewN | apply below_drew1 | refine below_set ?_ GE175.out) | exact HB.out))) | (with_reducible refine Kd.C_alloc ?_ _) | (with_reducible refine Kd.C_drewN ?_ _) | (with_reducible refine Kd.C_drew ?_))); (case side2 => exact HC0.out); rintro e w62 ⟨rfl, hb⟩; refine ⟨_, rfl, ?_⟩; have n0_ := Aside0.mk (Kd.R_below (by (with_reducible repeat (first | apply Kd.R_alloc | apply Kd.R_drewN | apply Kd.R_drew)); exact HO_7.out) hb); have n1_ := Aside0.mk (blk_below (g := gb175) (o := .cells #[.string a1_0, .int .i64 a1_1] 37 (0, 0)) (by (with_reducible repeat (first | refine blk_drewN ?_ _ | refine blk_drew ?_ | refine blk_alloc ?_ _)); exact BK175.out) hb); have n2_ := Aside0.mk (below_step (by repeat (first | (with_reducible first | exact HB.out | apply below_alloc | apply pw_below_drewN | apply below_drew1 | refine below_set ?_ GE175.out) | exact HB.out)) hb); clear HO_7; clear BK175; clear HB; have HO_7 := n0_; have BK175 := n1_; have HB := n2_; clear n0_ n1_ n2_; (try clear hb); (try clear hb2); (try clear hk); (try clear hi)) | (go_at_call 19; (with_reducible refine (dir_Name.calls a2 t209 _ A51.out).mono ?_); rintro e w' ⟨rfl, ⟨nd, rfl⟩⟩) | (go_at_call 9; (with_reducible refine (undercroftlaw08_num.calls t209 t210 _ A52.out).mono ?_); rintro e w' ⟨rfl, ⟨nd, rfl⟩⟩) | (go_at_call 20; (with_reducible refine (undercroftref08_Name.calls kj10 a2 t211 _ A53.out).mono ?_); rintro e w' ⟨rfl, ⟨nd, rfl⟩⟩) | (go_at_call 13; (with_reducible refine (undercroftlaw08_Alike.calls kj10 _ _ t176 _ _ l0 t212 _ ?side1 ?side2 ?side3 ?side4 A55.out).mono ?_); (case side1 => repeat (first | exact (Kd.R_reads' HO_7.out).2.2 | (with_reducible refine Kd.C_alloc ?_ _) | (with_reducible refine Kd.C_drewN ?_ _) | (with_reducible refine Kd.C_drew ?_))); (case side2 => exact (Kd.R_reads' HO_7.out).2.1); (case side3 => repeat (first | exact (Kd.C_below HR0.out (by repeat (first | (with_reducible first | exact HB.out | apply below_alloc | apply pw_below_drewN | apply below_drew1 | refine below_set ?_ GE175.out) | exact HB.out))) | (with_reducible refine Kd.C_alloc ?_ _) | (with_reducible refine Kd.C_drewN ?_ _) | (with_reducible refine Kd.C_drew ?_))); (case side4 => exact HC0.out); rintro e w' ⟨rfl, ⟨nd, rfl⟩⟩))
              go_ret
              exact ⟨by first | rfl | (simp [errW_none, errW_some] <;> rfl) | (simp [*, errW_none, errW_some] <;> rfl), by repeat (first | (with_reducible first | exact HB.out | apply below_alloc | apply pw_below_drewN | apply below_drew1 | refine below_set ?_ GE175.out) | exact HB.out)⟩
          · rw [if_neg c54] at H
            have c54b0 : (t210 == t211) = false := beq_eq_false_iff_ne.mpr c54
            have c54b1 : (t210 != t211) = true := bne_iff_ne.mpr c54
            obtain rfl := Option.some.inj H
            go_wp2_with (first | ((with_reducible refine gate_callee (f := 10) rfl ?_); refine goesL_ (some 101) rfl rfl Try.func10 (by kernel_rfl) rfl #[.slice Ao14 t176.length co14] rfl (by (try simp only [List.map_toArray, List.map_cons, List.map_nil]); first | done | rfl | (simp only [List.length_drop, List.length_take]; rfl)) ?_; (with_reducible refine (dir_Check.calls kj10 _ _ t176 t206 _ ?side1 ?side2 A47.out).mono ?_); (case side1 => repeat (first | exact (Kd.R_reads' HO_7.out).2.2 | (with_reducible refine Kd.C_alloc ?_ _) | (with_reducible refine Kd.C_drewN ?_ _) | (with_reducible refine Kd.C_drew ?_))); (case side2 => exact (Kd.R_reads' HO_7.out).2.1); rintro e w63 ⟨rfl, hb⟩; refine ⟨_, rfl, ?_⟩; have n0_ := Aside0.mk (Kd.R_below (by (with_reducible repeat (first | apply Kd.R_alloc | apply Kd.R_drewN | apply Kd.R_drew)); exact HO_7.out) hb); have n1_ := Aside0.mk (blk_below (g := gb175) (o := .cells #[.string a1_0, .int .i64 a1_1] 37 (0, 0)) (by (with_reducible repeat (first | refine blk_drewN ?_ _ | refine blk_drew ?_ | refine blk_alloc ?_ _)); exact BK175.out) hb); have n2_ := Aside0.mk (below_step (by repeat (first | (with_reducible first | exact HB.out | apply below_alloc | apply pw_below_drewN | apply below_drew1 | refine below_set ?_ GE175.out) | exact HB.out)) hb); clear HO_7; clear BK175; clear HB; have HO_7 := n0_; have BK175 := n1_; have HB := n2_; clear n0_ n1_ n2_; (try clear hb); (try clear hb2); (try clear hk); (try clear hi)) | ((with_reducible refine gate_callee (f := 9) rfl ?_); refine goesL_ (some 102) rfl rfl Try.func9 (by kernel_rfl) rfl #[.int .i64 t206] rfl (by (try simp only [List.map_toArray, List.map_cons, List.map_nil]); first | done | rfl | (simp only [List.length_drop, List.length_take]; rfl)) ?_; (with_reducible refine (undercroftlaw08_num.calls t206 t207 _ A48.out).mono ?_); rintro e w' ⟨rfl, ⟨nd, rfl⟩⟩; refine ⟨_, rfl, ?_⟩) | ((with_reducible refine gate_callee (f := 8) rfl ?_); refine goesL_ (some 104) rfl rfl Try.func8 (by kernel_rfl) rfl #[.slice A0 l0.length c0] rfl (by (try simp only [List.map_toArray, List.map_cons, List.map_nil]); first | done | rfl | (simp only [List.length_drop, List.length_take]; rfl)) ?_; (with_reducible refine (undercroftref08_Check.calls kj10 _ _ l0 t208 _ ?side1 ?side2 A49.out).mono ?_); (case side1 => repeat (first | exact (Kd.C_below HR0.out (by repeat (first | (with_reducible first | exact HB.out | apply below_alloc | apply pw_below_drewN | apply below_drew1 | refine below_set ?_ GE175.out) | exact HB.out))) | (with_reducible refine Kd.C_alloc ?_ _) | (with_reducible refine Kd.C_drewN ?_ _) | (with_reducible refine Kd.C_drew ?_))); (case side2 => exact HC0.out); rintro e w64 ⟨rfl, hb⟩; refine ⟨_, rfl, ?_⟩; have n0_ := Aside0.mk (Kd.R_below (by (with_reducible repeat (first | apply Kd.R_alloc | apply Kd.R_drewN | apply Kd.R_drew)); exact HO_7.out) hb); have n1_ := Aside0.mk (blk_below (g := gb175) (o := .cells #[.string a1_0, .int .i64 a1_1] 37 (0, 0)) (by (with_reducible repeat (first | refine blk_drewN ?_ _ | refine blk_drew ?_ | refine blk_alloc ?_ _)); exact BK175.out) hb); have n2_ := Aside0.mk (below_step (by repeat (first | (with_reducible first | exact HB.out | apply below_alloc | apply pw_below_drewN | apply below_drew1 | refine below_set ?_ GE175.out) | exact HB.out)) hb); clear HO_7; clear BK175; clear HB; have HO_7 := n0_; have BK175 := n1_; have HB := n2_; clear n0_ n1_ n2_; (try clear hb); (try clear hb2); (try clear hk); (try clear hi)) | (go_at_call 19; (with_reducible refine (dir_Name.calls a2 t209 _ A51.out).mono ?_); rintro e w' ⟨rfl, ⟨nd, rfl⟩⟩) | (go_at_call 9; (with_reducible refine (undercroftlaw08_num.calls t209 t210 _ A52.out).mono ?_); rintro e w' ⟨rfl, ⟨nd, rfl⟩⟩) | (go_at_call 20; (with_reducible refine (undercroftref08_Name.calls kj10 a2 t211 _ A53.out).mono ?_); rintro e w' ⟨rfl, ⟨nd, rfl⟩⟩))
            go_ret
            exact ⟨by first | rfl | (simp [errW_none, errW_some] <;> rfl) | (simp [*, errW_none, errW_some] <;> rfl), by repeat (first | (with_reducible first | exact HB.out | apply below_alloc | apply pw_below_drewN | apply below_drew1 | refine below_set ?_ GE175.out) | exact HB.out)⟩
        · rw [if_neg c50] at H
          have c50b0 : (t207 == t208) = false := beq_eq_false_iff_ne.mpr c50
          have c50b1 : (t207 != t208) = true := bne_iff_ne.mpr c50
          obtain rfl := Option.some.inj H
          go_wp2_with (first | ((with_reducible refine gate_callee (f := 10) rfl ?_); refine goesL_ (some 101) rfl rfl Try.func10 (by kernel_rfl) rfl #[.slice Ao14 t176.length co14] rfl (by (try simp only [List.map_toArray, List.map_cons, List.map_nil]); first | done | rfl | (simp only [List.length_drop, List.length_take]; rfl)) ?_; (with_reducible refine (dir_Check.calls kj10 _ _ t176 t206 _ ?side1 ?side2 A47.out).mono ?_); (case side1 => repeat (first | exact (Kd.R_reads' HO_7.out).2.2 | (with_reducible refine Kd.C_alloc ?_ _) | (with_reducible refine Kd.C_drewN ?_ _) | (with_reducible refine Kd.C_drew ?_))); (case side2 => exact (Kd.R_reads' HO_7.out).2.1); rintro e w65 ⟨rfl, hb⟩; refine ⟨_, rfl, ?_⟩; have n0_ := Aside0.mk (Kd.R_below (by (with_reducible repeat (first | apply Kd.R_alloc | apply Kd.R_drewN | apply Kd.R_drew)); exact HO_7.out) hb); have n1_ := Aside0.mk (blk_below (g := gb175) (o := .cells #[.string a1_0, .int .i64 a1_1] 37 (0, 0)) (by (with_reducible repeat (first | refine blk_drewN ?_ _ | refine blk_drew ?_ | refine blk_alloc ?_ _)); exact BK175.out) hb); have n2_ := Aside0.mk (below_step (by repeat (first | (with_reducible first | exact HB.out | apply below_alloc | apply pw_below_drewN | apply below_drew1 | refine below_set ?_ GE175.out) | exact HB.out)) hb); clear HO_7; clear BK175; clear HB; have HO_7 := n0_; have BK175 := n1_; have HB := n2_; clear n0_ n1_ n2_; (try clear hb); (try clear hb2); (try clear hk); (try clear hi)) | ((with_reducible refine gate_callee (f := 9) rfl ?_); refine goesL_ (some 102) rfl rfl Try.func9 (by kernel_rfl) rfl #[.int .i64 t206] rfl (by (try simp only [List.map_toArray, List.map_cons, List.map_nil]); first | done | rfl | (simp only [List.length_drop, List.length_take]; rfl)) ?_; (with_reducible refine (undercroftlaw08_num.calls t206 t207 _ A48.out).mono ?_); rintro e w' ⟨rfl, ⟨nd, rfl⟩⟩; refine ⟨_, rfl, ?_⟩) | ((with_reducible refine gate_callee (f := 8) rfl ?_); refine goesL_ (some 104) rfl rfl Try.func8 (by kernel_rfl) rfl #[.slice A0 l0.length c0] rfl (by (try simp only [List.map_toArray, List.map_cons, List.map_nil]); first | done | rfl | (simp only [List.length_drop, List.length_take]; rfl)) ?_; (with_reducible refine (undercroftref08_Check.calls kj10 _ _ l0 t208 _ ?side1 ?side2 A49.out).mono ?_); (case side1 => repeat (first | exact (Kd.C_below HR0.out (by repeat (first | (with_reducible first | exact HB.out | apply below_alloc | apply pw_below_drewN | apply below_drew1 | refine below_set ?_ GE175.out) | exact HB.out))) | (with_reducible refine Kd.C_alloc ?_ _) | (with_reducible refine Kd.C_drewN ?_ _) | (with_reducible refine Kd.C_drew ?_))); (case side2 => exact HC0.out); rintro e w66 ⟨rfl, hb⟩; refine ⟨_, rfl, ?_⟩; have n0_ := Aside0.mk (Kd.R_below (by (with_reducible repeat (first | apply Kd.R_alloc | apply Kd.R_drewN | apply Kd.R_drew)); exact HO_7.out) hb); have n1_ := Aside0.mk (blk_below (g := gb175) (o := .cells #[.string a1_0, .int .i64 a1_1] 37 (0, 0)) (by (with_reducible repeat (first | refine blk_drewN ?_ _ | refine blk_drew ?_ | refine blk_alloc ?_ _)); exact BK175.out) hb); have n2_ := Aside0.mk (below_step (by repeat (first | (with_reducible first | exact HB.out | apply below_alloc | apply pw_below_drewN | apply below_drew1 | refine below_set ?_ GE175.out) | exact HB.out)) hb); clear HO_7; clear BK175; clear HB; have HO_7 := n0_; have BK175 := n1_; have HB := n2_; clear n0_ n1_ n2_; (try clear hb); (try clear hb2); (try clear hk); (try clear hi)))
          go_ret
          exact ⟨by first | rfl | (simp [errW_none, errW_some] <;> rfl) | (simp [*, errW_none, errW_some] <;> rfl), by repeat (first | (with_reducible first | exact HB.out | apply below_alloc | apply pw_below_drewN | apply below_drew1 | refine below_set ?_ GE175.out) | exact HB.out)⟩

end Go.Proofs.Ytiglgckhikipeaa.PDir
