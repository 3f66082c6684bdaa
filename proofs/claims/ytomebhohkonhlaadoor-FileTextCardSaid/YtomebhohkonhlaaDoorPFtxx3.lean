-- Written by a program of this session (gen.py).
import Derived.Test.YtomebhohkonhlaaDoorPFtxx0
import Derived.Test.YtomebhohkonhlaaDoorPFtxx1
import Derived.Test.YtomebhohkonhlaaDoorPFtxx2
namespace Go.Proofs.YtomebhohkonhlaaDoor.PFtx
open Go.RowKit Go.Proofs.YtomebhohkonhlaaDoorW.PrintWords Go.Proofs.YtomebhohkonhlaaDoorW.PrintLast Go.Proofs.YtomebhohkonhlaaDoorW.PrintMore
open Go.Proofs.YtomebhohkonhlaaDoor.Own
attribute [local go_sem high] unary_not_u32 unary_not_u64 unary_not_u8 string_leq_ string_gtr_
attribute [local go_sem] max2_int min2_int max_two min_two max_three min_three max_four min_four   -- for this text's walks alone
set_option linter.unusedVariables false
set_option linter.unusedSimpArgs false

/-! ### file_Write: function 10 -/
/-! #### a map of slices by numbers -/
/-- How an element reads: as its own value. -/
def Rm (v : Value) : Option (DataW Value × List MemPlace) := some (.held v, [])
theorem keyM : Maps.Keyed Tryd.prog 3 := Maps.int_keyed Tryd.underlying3
theorem litM {i : Nat} (hi : i < 76) : (Lit.int .i64 (i : Int)).wf = true := by
  have h : ∀ i : Fin 76, (Lit.int .i64 (i.val : Int)).wf = true := by decide
  exact h ⟨i, hi⟩
theorem keyOfM {i : Nat} (hi : i < 76) : keyOf Tryd.prog 3 (.int .i64 (i : Int)) = some (.int .i64 (i : Int)) := Maps.keyOf_int_mk Tryd.underlying3 (litM hi)
theorem isKeyM {i : Nat} (hi : i < 76) : WideAt.IsKeyLit (.int .i64 (i : Int)) := keyM.key (keyOfM hi)
theorem litM_inj {i j : Nat} (h : Lit.int .i64 (i : Int) = Lit.int .i64 (j : Int)) : i = j := by
  injection h with _ h
  exact Int.ofNat.inj h
/-- What a map's datum says of V. -/
structure Ms (D : DataW Value) (V : Nat → Option Value) : Prop where
  keys : ∀ kl, Maps.has D kl = true → ∃ i : Nat, i < 76 ∧ kl = .int .i64 (i : Int) ∧ V i ≠ none
  vals : ∀ i v, V i = some v → i < 76 ∧ Maps.has D (.int .i64 (i : Int)) = true ∧ ∀ zd, D.atKey (.int .i64 (i : Int)) zd = .held v
theorem Ms.none_ : Ms (.map []) (fun _ => none) := ⟨fun kl h => by simp [Maps.has] at h, fun i v h => by cases h⟩
theorem Ms.hasNot {D : DataW Value} {V : Nat → Option Value} (h : Ms D V) {i : Nat} (hv : V i = none) : Maps.has D (.int .i64 (i : Int)) = false := by
  cases hh : Maps.has D (.int .i64 (i : Int)) with
  | false => rfl
  | true =>
    obtain ⟨j, _, hj, hn⟩ := h.keys _ hh
    obtain rfl := litM_inj hj
    exact absurd hv hn
def putV (V : Nat → Option Value) (i : Nat) (v : Value) : Nat → Option Value := fun j => if j = i then some v else V j
theorem Ms.put {D : DataW Value} {V : Nat → Option Value} (h : Ms D V) (hD : Maps.IsMap D) {i : Nat} (hi : i < 76) (v : Value) : Ms (D.put (.int .i64 (i : Int)) (.held v)) (putV V i v) := by
  constructor
  · intro kl hk
    by_cases he : kl = .int .i64 (i : Int)
    · exact ⟨i, hi, he, by simp [putV]⟩
    · rw [Maps.has_put_other he] at hk
      obtain ⟨j, hj, rfl, hn⟩ := h.keys _ hk
      refine ⟨j, hj, rfl, ?_⟩
      unfold putV
      split
      · simp
      · exact hn
  · intro j u hj
    unfold putV at hj
    split at hj
    · rename_i e
      subst e
      obtain rfl := Option.some.inj hj
      exact ⟨hi, Maps.has_put_same hD (isKeyM hi) _, fun zd => Maps.atKey_put_same hD (isKeyM hi) _ zd⟩
    · rename_i e
      obtain ⟨h1, h2, h3⟩ := h.vals j u hj
      have hne : Lit.int .i64 (j : Int) ≠ .int .i64 (i : Int) := fun h_ => e (litM_inj h_)
      exact ⟨h1, by rw [Maps.has_put_other hne]; exact h2, fun zd => by rw [Maps.atKey_put_other hne]; exact h3 zd⟩
/-- Block mb is a map of at most n entries that holds V. -/
def Mp (W : World) (mb n : Nat) (V : Nat → Option Value) : Prop := ∃ D, W.ownsMap Tryd.prog 3 Rm mb n D ∧ Ms D V
theorem Mp.made (W : World) : Mp (W.alloc (.map #[] 0)) W.heap.size 0 (fun _ => none) := ⟨_, World.ownsMap_made W _ _ _, Ms.none_⟩
theorem Mp.lt {W : World} {mb n : Nat} {V : Nat → Option Value} (h : Mp W mb n V) : mb < W.heap.size := by
  obtain ⟨D, h, _⟩ := h
  exact h.lt
theorem ownsMap_move {W W' : World} {mb n : Nat} {D : DataW Value} (h : W.ownsMap Tryd.prog 3 Rm mb n D) (hb : W'.heap[mb]? = W.heap[mb]?) : W'.ownsMap Tryd.prog 3 Rm mb n D := by
  obtain ⟨es, clock, h1, h2⟩ := h
  exact ⟨es, clock, hb.trans h1, h2⟩
theorem Mp.move {W W' : World} {mb n : Nat} {V : Nat → Option Value} (h : Mp W mb n V) (hb : W'.heap[mb]? = W.heap[mb]?) : Mp W' mb n V := by
  obtain ⟨D, h1, h2⟩ := h
  exact ⟨D, ownsMap_move h1 hb, h2⟩
theorem Mp.mono {W : World} {mb n n' : Nat} {V : Nat → Option Value} (h : Mp W mb n V) (hn : n ≤ n') : Mp W mb n' V := by
  obtain ⟨D, h1, h2⟩ := h
  exact ⟨D, h1.mono hn, h2⟩
theorem Mp.obj {W : World} {mb n : Nat} {V : Nat → Option Value} (h : Mp W mb n V) : ∃ es c, W.heap[mb]? = some (.map es c) := by
  obtain ⟨D, ⟨es, clock, h1, _⟩, _⟩ := h
  exact ⟨es, clock, h1⟩
theorem Mp.bound {W : World} {mb n : Nat} {V : Nat → Option Value} (h : Mp W mb n V) {i : Nat} (hv : V i ≠ none) : i < 76 := by
  obtain ⟨D, h1, h2⟩ := h
  cases hh : V i with
  | none => exact absurd hh hv
  | some v => exact (h2.vals i v hh).1
theorem zeroM (w : World) : (zeroValue 25).run Tryd.prog w = .ok (.slice none 0 0) w := by kernel_rfl
theorem Mp.look {W : World} {mb n : Nat} {V : Nat → Option Value} (h : Mp W mb n V) {i : Nat} (hi : i < 76) :
    (Instr.lookup 71 (.map (some mb)) (.int .i64 (i : Int)) false).run Tryd.prog W = .ok ((V i).getD (.slice none 0 0)) W := by
  obtain ⟨D, h1, h2⟩ := h
  obtain ⟨v, ps, hr, hv⟩ := h1.lookup keyM Tryd.underlying71 (zeroM W) (zd := .held (.slice none 0 0)) (zp := []) rfl (keyOfM hi)
  rw [hr]
  have hv' : DataW.held v = D.atKey (.int .i64 (i : Int)) (.held (.slice none 0 0)) := by
    have h_ := Option.some.inj hv
    exact (congrArg Prod.fst h_)
  cases hh : V i with
  | none =>
    rw [Maps.atKey_of_not_has (h2.hasNot hh)] at hv'
    rw [DataW.held.inj hv']
    rfl
  | some u =>
    rw [(h2.vals i u hh).2.2] at hv'
    rw [DataW.held.inj hv']
    rfl
theorem Mp.store {W : World} {mb n : Nat} {V : Nat → Option Value} (h : Mp W mb n V) {i : Nat} (hi : i < 76) (hn : n < maxLen) (v : Value) :
    ∃ w', (Instr.mapUpdate 71 (.map (some mb)) (.int .i64 (i : Int)) v).run Tryd.prog W = .ok () w' ∧ Mp w' mb (n + 1) (putV V i v) ∧ W.grownBy w' (some mb) := by
  obtain ⟨D, h1, h2⟩ := h
  obtain ⟨w', hr, ho, hg⟩ := h1.update keyM Tryd.underlying71 hn (keyOfM hi) (val := v) (d := .held v) (ps := []) rfl
  exact ⟨w', hr, ⟨_, ho, h2.put h1.isMap hi v⟩, hg⟩
/-- A round over the map is under way: left: which numbers are still to come. -/
def Rg (W : World) (mb r n : Nat) (V : Nat → Option Value) (left : Nat → Bool) (cnt : Nat) : Prop := ∃ D lf, W.ranges Tryd.prog 3 Rm mb r n D lf cnt ∧ Ms D V ∧ (∀ i : Nat, i < 76 → lf (.int .i64 (i : Int)) = left i) ∧ (∀ kl, lf kl = true → Maps.has D kl = true)
theorem Rg.map {W : World} {mb r n : Nat} {V : Nat → Option Value} {left : Nat → Bool} {cnt : Nat} (h : Rg W mb r n V left cnt) : Mp W mb n V := by
  obtain ⟨D, lf, h1, h2, _⟩ := h
  exact ⟨D, h1.owns, h2⟩
theorem Rg.left_eq {W : World} {mb r n : Nat} {V : Nat → Option Value} {left : Nat → Bool} {cnt : Nat} (h : Rg W mb r n V left cnt) : W.rangeLeft mb r = cnt := by
  obtain ⟨D, lf, h1, _⟩ := h
  exact h1.left_eq
theorem Rg.lt {W : World} {mb r n : Nat} {V : Nat → Option Value} {left : Nat → Bool} {cnt : Nat} (h : Rg W mb r n V left cnt) : r < W.heap.size := by
  obtain ⟨D, lf, h1, _⟩ := h
  exact h1.lt
theorem Rg.move {W W' : World} {mb r n : Nat} {V : Nat → Option Value} {left : Nat → Bool} {cnt : Nat} (h : Rg W mb r n V left cnt) (hb : W'.heap[mb]? = W.heap[mb]?) (hr : W'.heap[r]? = W.heap[r]?) : Rg W' mb r n V left cnt := by
  obtain ⟨D, lf, ⟨es, clock, since, seen, c0, a1, a2, a3, a4, a5, a6⟩, h2⟩ := h
  exact ⟨D, lf, ⟨es, clock, since, seen, c0, hb.trans a1, a2, a3, a4, hr.trans a5, a6⟩, h2⟩
theorem Mp.range {W : World} {mb n : Nat} {V : Nat → Option Value} (h : Mp W mb n V) :
    ∃ w', (Instr.range 71 (.map (some mb))).run Tryd.prog W = .ok (.pointer (some ⟨W.heap.size, 0, none⟩)) w' ∧ (∃ cnt, Rg w' mb W.heap.size n V (fun i => (V i).isSome) cnt) ∧ W.grownBy w' none ∧ w'.heap.size = W.heap.size + 1 := by
  obtain ⟨D, h1, h2⟩ := h
  obtain ⟨w', hr, hg, hgr, hs⟩ := h1.range keyM Tryd.underlying71
  refine ⟨w', hr, ⟨_, D, _, hg, h2, fun i hi => ?_, fun kl hk => hk⟩, hgr, hs⟩
  cases hh : V i with
  | none => exact (h2.hasNot hh).trans (by simp [hh])
  | some v => exact ((h2.vals i v hh).2.1).trans (by simp [hh])
/-- The step: nothing is left, or one number comes, whichever. -/
theorem Rg.next {W : World} {mb r n : Nat} {V : Nat → Option Value} {left : Nat → Bool} {cnt : Nat} (h : Rg W mb r n V left cnt) (ty : TypeId) :
    ((∀ i, i < 76 → left i = false) ∧ (Instr.next (.pointer (some ⟨r, 0, none⟩)) false ty).run Tryd.prog W = .ok (.tuple #[.bool false]) W) ∨
    ∃ (i : Nat) (v : Value) (w' : World) (cnt' : Nat), i < 76 ∧ left i = true ∧ V i = some v ∧ (Instr.next (.pointer (some ⟨r, 0, none⟩)) false ty).run Tryd.prog W = .ok (.tuple #[.bool true, .int .i64 (i : Int), v]) w' ∧
      Rg w' mb r n V (fun j => left j && !(j == i)) cnt' ∧ cnt' < cnt ∧ W.grownBy w' (some r) ∧ w'.heap.size = W.heap.size ∧ (Instr.entry (.pointer (some ⟨r, 0, none⟩))).run Tryd.prog w' = .ok (.tuple #[.int .i64 (i : Int), v]) w' := by
  obtain ⟨D, lf, h1, h2, h3, h4⟩ := h
  rcases h1.next keyM ty with ⟨h0, hl, hrun⟩ | ⟨key, v, kl, y, w', cnt', hkey, hlk, hv, hat, hrun, hrg, hlt, hgr, hsz, hen⟩
  · exact .inl ⟨fun i hi => by rw [← h3 i hi]; exact hl _, hrun⟩
  · obtain ⟨i, hi, rfl, hn⟩ := h2.keys _ (h4 _ hlk)
    obtain ⟨x, rfl, hx, _⟩ := Maps.keyOf_int_inv Tryd.underlying3 hkey
    injection hx with _ hx
    subst hx
    cases hh : V i with
    | none => exact absurd hh hn
    | some u =>
      have e1 := (h2.vals i u hh).2.2 (.held u)
      have e2 := hat (.held u)
      have e3 : y.1 = .held v := by
        have h_ := Option.some.inj hv
        exact (congrArg Prod.fst h_).symm
      have e4 : u = v := DataW.held.inj ((e1.symm.trans e2).trans e3)
      subst e4
      refine .inr ⟨i, u, w', cnt', hi, by rw [← h3 i hi]; exact hlk, hh, hrun, ⟨D, _, hrg, h2, fun j hj => ?_, fun kl hk => ?_⟩, hlt, hgr, hsz, hen⟩
      · show (lf (.int .i64 (j : Int)) && !(Lit.int .i64 (j : Int)).sameKey (.int .i64 (i : Int))) = _
        rw [h3 j hj]
        by_cases hji : j = i
        · subst hji
          rw [WideAt.sameKey_self (isKeyM hj)]
          simp
        · rw [Maps.sameKey_ne (fun h_ => hji (litM_inj h_))]
          simp [hji]
      · have hk' : (lf kl && !kl.sameKey (.int .i64 (i : Int))) = true := hk
        rw [Bool.and_eq_true] at hk'
        exact h4 _ hk'.1
theorem Rg.done {W : World} {mb r n : Nat} {V : Nat → Option Value} {left : Nat → Bool} {cnt : Nat} (h : Rg W mb r n V left cnt) {i : Nat} (hv : V i ≠ none) : i < 76 := h.map.bound hv
theorem Rg.left_has {W : World} {mb r n : Nat} {V : Nat → Option Value} {left : Nat → Bool} {cnt : Nat} (h : Rg W mb r n V left cnt) {i : Nat} (hi : i < 76) (hl : left i = true) : V i ≠ none := by
  obtain ⟨D, lf, h1, h2, h3, h4⟩ := h
  obtain ⟨j, _, hj, hn⟩ := h2.keys _ (h4 _ (by rw [h3 i hi]; exact hl))
  obtain rfl := litM_inj hj
  exact hn
/-! #### the operations -/
section
variable {P : Program} {ops : Array Oper} {rest : List Oper} {o : Oper} {a : Act} {Q : Exit → Act → World → Prop} {w : World}
theorem look_step {mb n : Nat} {V : Nat → Option Value} (hg : o.guard = none) (m x : Operand) (hop : o.op = Op.lookup 71 m x false) {N : Option Tmp} (hN : o.dst = N) (hm : a.eval m = .map (some mb)) (i : Nat) (hx : a.eval x = .int .i64 (i : Int)) (hi : i < 76) (h : Mp w mb n V)
    (hK : wpList Tryd.prog ops Q rest (a.put N ((V i).getD (.slice none 0 0))) w) : wpList Tryd.prog ops Q (o :: rest) a w := by
  subst hN
  refine wpList_plain hg fun K' hK' => ?_
  unfold Oper.wp
  simp [execOp, hop, hm, hx, h.look hi, Result.andThen]
  exact hK' _ _ hK
theorem store_step {mb n : Nat} {V : Nat → Option Value} (hg : o.guard = none) (m x u : Operand) (hop : o.op = Op.mapUpdate 71 m x u) {N : Option Tmp} (hN : o.dst = N) (hm : a.eval m = .map (some mb)) (i : Nat) (v : Value) (hx : a.eval x = .int .i64 (i : Int)) (hu : a.eval u = v) (hi : i < 76) (hn : n < maxLen) (h : Mp w mb n V)
    (hK : ∀ w', Mp w' mb (n + 1) (putV V i v) → w.grownBy w' (some mb) → wpList Tryd.prog ops Q rest (a.put N undef) w') : wpList Tryd.prog ops Q (o :: rest) a w := by
  subst hN
  refine wpList_plain hg fun K' hK' => ?_
  obtain ⟨w', hr, h1, h2⟩ := h.store hi hn v
  unfold Oper.wp
  simp [execOp, hop, hm, hx, hu, hr, Result.andThen]
  exact hK' _ _ (hK w' h1 h2)
theorem store_one {mb n : Nat} {V : Nat → Option Value} {K : Act → World → Prop} (hw : Region.wanted o (yielded ops a.tmps) = true) (m x u : Operand) (hop : o.op = Op.mapUpdate 71 m x u) {N : Option Tmp} (hN : o.dst = N) (hm : a.eval m = .map (some mb)) (i : Nat) (v : Value) (hx : a.eval x = .int .i64 (i : Int)) (hu : a.eval u = v) (hi : i < 76) (hn : n < maxLen) (h : Mp w mb n V)
    (hK : ∀ w', Mp w' mb (n + 1) (putV V i v) → w.grownBy w' (some mb) → K (a.put N undef) w') : if Region.wanted o (yielded ops a.tmps) = true then Oper.wp Tryd.prog o a w K Q else K (a.put N undef) w := by
  rw [if_pos hw]
  subst hN
  obtain ⟨w', hr, h1, h2⟩ := h.store hi hn v
  unfold Oper.wp
  simp [execOp, hop, hm, hx, hu, hr, Result.andThen]
  exact hK w' h1 h2
theorem range_step {mb n : Nat} {V : Nat → Option Value} (hg : o.guard = none) (m : Operand) (hop : o.op = Op.range 71 m) {N : Option Tmp} (hN : o.dst = N) (hm : a.eval m = .map (some mb)) (h : Mp w mb n V)
    (hK : ∀ w' cnt, Rg w' mb w.heap.size n V (fun i => (V i).isSome) cnt → w.grownBy w' none → w'.heap.size = w.heap.size + 1 → wpList Tryd.prog ops Q rest (a.put N (.pointer (some ⟨w.heap.size, 0, none⟩))) w') : wpList Tryd.prog ops Q (o :: rest) a w := by
  subst hN
  refine wpList_plain hg fun K' hK' => ?_
  obtain ⟨w', hr, ⟨cnt, h1⟩, h2, h3⟩ := h.range
  unfold Oper.wp
  simp [execOp, hop, hm, hr, Result.andThen]
  exact hK' _ _ (hK w' cnt h1 h2 h3)
theorem next_step {mb r n : Nat} {V : Nat → Option Value} {left : Nat → Bool} {cnt : Nat} (hg : o.guard = none) (it : Operand) (hop : o.op = Op.next it false) {N : Option Tmp} (hN : o.dst = N) (hit : a.eval it = .pointer (some ⟨r, 0, none⟩)) (h : Rg w mb r n V left cnt)
    (hDone : (∀ i, i < 76 → left i = false) → wpList Tryd.prog ops Q rest (a.put N (.tuple #[.bool false])) w)
    (hMore : ∀ (i : Nat) (v : Value) (w' : World) (cnt' : Nat), i < 76 → left i = true → V i = some v → Rg w' mb r n V (fun j => left j && !(j == i)) cnt' → cnt' < cnt → w.grownBy w' (some r) → w'.heap.size = w.heap.size →
      (Instr.entry (.pointer (some ⟨r, 0, none⟩))).run Tryd.prog w' = .ok (.tuple #[.int .i64 (i : Int), v]) w' → wpList Tryd.prog ops Q rest (a.put N (.tuple #[.bool true, .int .i64 (i : Int), v])) w') : wpList Tryd.prog ops Q (o :: rest) a w := by
  subst hN
  refine wpList_plain hg fun K' hK' => ?_
  unfold Oper.wp
  rcases h.next o.type with ⟨hl, hrun⟩ | ⟨i, v, w', cnt', h1, h2, h3, hrun, h4, h5, h6, h7, h8⟩
  · simp [execOp, hop, hit, hrun, Result.andThen]
    exact hK' _ _ (hDone hl)
  · simp [execOp, hop, hit, hrun, Result.andThen]
    exact hK' _ _ (hMore i v w' cnt' h1 h2 h3 h4 h5 h6 h7 h8)
end
/-! #### a view of a file -/
/-- What the blocks by their places are. -/
abbrev VM := Nat → Option (List Int)
structure Vw (base : Nat) (W : World) (g : Nat) (sz : Int) (n : Nat) (m : VM) : Prop where
  ex : ∃ (mb : Nat) (V : Nat → Option Value) (bl : Nat → Nat), base ≤ g ∧ base ≤ mb ∧ W.heap[g]? = some (.cells #[.int .i64 sz, .map (some mb)] 73 (0, 0)) ∧ Mp W mb n V ∧ (∀ i, m i = none → V i = none) ∧
    (∀ i b, m i = some b → ∃ v, V i = some v ∧ Kd.R (Kd.int .u8) 5 W base (fun k => k = bl i) v b ∧ b.length = 32 ∧ i < 76) ∧ (∀ i j, m i ≠ none → m j ≠ none → bl i = bl j → i = j)
/-- The same with its parts named. -/
structure Vx (base : Nat) (W : World) (g mb : Nat) (V : Nat → Option Value) (bl : Nat → Nat) (n : Nat) (m : VM) : Prop where
  low : base ≤ mb
  map : Mp W mb n V
  no : ∀ i, m i = none → V i = none
  yes : ∀ i b, m i = some b → ∃ v, V i = some v ∧ Kd.R (Kd.int .u8) 5 W base (fun k => k = bl i) v b ∧ b.length = 32 ∧ i < 76
  inj : ∀ i j, m i ≠ none → m j ≠ none → bl i = bl j → i = j
theorem Vw.parts {base : Nat} {W : World} {g : Nat} {sz : Int} {n : Nat} {m : VM} (h : Vw base W g sz n m) : ∃ mb V bl, base ≤ g ∧ W.heap[g]? = some (.cells #[.int .i64 sz, .map (some mb)] 73 (0, 0)) ∧ Vx base W g mb V bl n m := by
  obtain ⟨mb, V, bl, h1, h2, h3, h4, h5, h6, h7⟩ := h.ex
  exact ⟨mb, V, bl, h1, h3, h2, h4, h5, h6, h7⟩
theorem Vw.of {base : Nat} {W : World} {g : Nat} {sz : Int} {n : Nat} {m : VM} {mb : Nat} {V : Nat → Option Value} {bl : Nat → Nat} (hg : base ≤ g) (hb : W.heap[g]? = some (.cells #[.int .i64 sz, .map (some mb)] 73 (0, 0))) (h : Vx base W g mb V bl n m) : Vw base W g sz n m :=
  ⟨mb, V, bl, hg, h.low, hb, h.map, h.no, h.yes, h.inj⟩
/-- The row of a block is where it is told, and of its type. -/
theorem R32_block {W : World} {base k : Nat} {v : Value} {b : List Int} (h : Kd.R (Kd.int .u8) 5 W base (fun j => j = k) v b) (hl : b.length = 32) : base ≤ k ∧ k < W.heap.size ∧ v.ownBlock = some k ∧ (∃ c, v = .slice (some ⟨k, 0, none⟩) 32 c ∧ 32 ≤ c) ∧ ∃ cells, W.heap[k]? = some (.cells cells 5 (0, 0)) := by
  obtain ⟨h0, inner, ho, _⟩ := h
  rcases ho.2 with ⟨_, h2⟩ | ⟨q, cap, cur, rfl, hq, hh, hc, _⟩
  · omega
  · obtain rfl : q = k := h0 q rfl
    rw [hl] at hc ⊢
    exact ⟨hq, (Array.getElem?_eq_some_iff.1 hh).1, rfl, ⟨cap, rfl, hc⟩, cur, hh⟩
theorem Vx.blk {base : Nat} {W : World} {g mb : Nat} {V : Nat → Option Value} {bl : Nat → Nat} {n : Nat} {m : VM} (h : Vx base W g mb V bl n m) {i : Nat} (hi : m i ≠ none) : base ≤ bl i ∧ bl i < W.heap.size ∧ ∃ cells, W.heap[bl i]? = some (.cells cells 5 (0, 0)) := by
  cases hm : m i with
  | none => exact absurd hm hi
  | some b =>
    obtain ⟨v, hv, hR, hl, _⟩ := h.yes i b hm
    obtain ⟨h1, h2, _, _, h3⟩ := R32_block hR hl
    exact ⟨h1, h2, h3⟩
theorem Vx.blk_ne {base : Nat} {W : World} {g mb : Nat} {V : Nat → Option Value} {bl : Nat → Nat} {n : Nat} {m : VM} (h : Vx base W g mb V bl n m) {i : Nat} (hi : m i ≠ none) : bl i ≠ mb := by
  intro e
  obtain ⟨_, _, cells, h1⟩ := h.blk hi
  obtain ⟨es, c, h2⟩ := h.map.obj
  rw [e, h2] at h1
  cases h1
/-- The map and the rows stay. -/
theorem Vx.move {base : Nat} {W W' : World} {g mb : Nat} {V : Nat → Option Value} {bl : Nat → Nat} {n : Nat} {m : VM} (h : Vx base W g mb V bl n m) (hb : W'.heap[mb]? = W.heap[mb]?) (hr : ∀ i, m i ≠ none → W'.heap[bl i]? = W.heap[bl i]?) : Vx base W' g mb V bl n m :=
  ⟨h.low, h.map.move hb, h.no, fun i b hm => by
    obtain ⟨v, h1, h2, h3⟩ := h.yes i b hm
    exact ⟨v, h1, Kd.R_move h2 (fun k hk => by subst hk; exact hr i (by rw [hm]; simp)), h3⟩, h.inj⟩
theorem Vx.below {base : Nat} {W W' : World} {g mb : Nat} {V : Nat → Option Value} {bl : Nat → Nat} {n : Nat} {m : VM} (h : Vx base W g mb V bl n m) (hb : Below W.heap.size W W') : Vx base W' g mb V bl n m :=
  h.move (hb.block mb h.map.lt) (fun i hi => hb.block _ (h.blk hi).2.1)
theorem Vw.below {base : Nat} {W W' : World} {g : Nat} {sz : Int} {n : Nat} {m : VM} (h : Vw base W g sz n m) (hb : Below W.heap.size W W') : Vw base W' g sz n m := by
  obtain ⟨mb, V, bl, h1, h2, h3⟩ := h.parts
  exact Vw.of h1 ((hb.block g (blk_lt h2)).trans h2) (h3.below hb)
theorem Vx.mono {base : Nat} {W : World} {g mb : Nat} {V : Nat → Option Value} {bl : Nat → Nat} {n n' : Nat} {m : VM} (h : Vx base W g mb V bl n m) (hn : n ≤ n') : Vx base W g mb V bl n' m := ⟨h.low, h.map.mono hn, h.no, h.yes, h.inj⟩
def putM (m : VM) (i : Nat) (b : List Int) : VM := fun j => if j = i then some b else m j
/-- A new row has been laid at i. -/
theorem Vx.put {base : Nat} {W W' : World} {g mb : Nat} {V : Nat → Option Value} {bl : Nat → Nat} {n : Nat} {m : VM} (h : Vx base W g mb V bl n m) {i k : Nat} {b : List Int} {v : Value} (hi : i < 76) (hR : Kd.R (Kd.int .u8) 5 W base (fun j => j = k) v b) (hl : b.length = 32) (hk : ∀ j, m j ≠ none → bl j ≠ k)
    (hm : Mp W' mb (n + 1) (putV V i v)) (hg : W.grownBy W' (some mb)) : Vx base W' g mb (putV V i v) (fun j => if j = i then k else bl j) (n + 1) (putM m i b) := by
  have hk2 : k ≠ mb := by
    intro e
    obtain ⟨_, _, _, _, cells, h1⟩ := R32_block hR hl
    obtain ⟨es, c, h2⟩ := h.map.obj
    rw [e, h2] at h1
    cases h1
  refine ⟨h.low, hm, fun j hj => ?_, fun j c hj => ?_, fun j1 j2 h1 h2 h3 => ?_⟩
  · unfold putM at hj
    unfold putV
    split at hj
    · cases hj
    · rename_i e
      rw [if_neg e]
      exact h.no j hj
  · unfold putM at hj
    unfold putV
    split at hj
    · rename_i e
      subst e
      obtain rfl := Option.some.inj hj
      refine ⟨v, by rw [if_pos rfl], ?_, hl, hi⟩
      rw [if_pos rfl]
      exact Kd.R_grown hR hg (fun q hq => by rw [hq]; intro e; injection e with e; exact hk2 e)
    · rename_i e
      obtain ⟨u, h1, h2, h3, h4⟩ := h.yes j c hj
      refine ⟨u, by rw [if_neg e]; exact h1, ?_, h3, h4⟩
      rw [if_neg e]
      exact Kd.R_grown h2 hg (fun q hq => by rw [hq]; intro e_; injection e_ with e_; exact h.blk_ne (by rw [hj]; simp) e_)
  · unfold putM at h1 h2
    by_cases e1 : j1 = i
    · by_cases e2 : j2 = i
      · rw [e1, e2]
      · rw [if_pos e1, if_neg e2] at h3
        rw [if_neg e2] at h2
        exact absurd h3.symm (hk j2 h2)
    · by_cases e2 : j2 = i
      · rw [if_neg e1, if_pos e2] at h3
        rw [if_neg e1] at h1
        exact absurd h3 (hk j1 h1)
      · rw [if_neg e1, if_neg e2] at h3
        rw [if_neg e1] at h1
        rw [if_neg e2] at h2
        exact h.inj j1 j2 h1 h2 h3
theorem Vx.none_ {base : Nat} {W : World} {g mb : Nat} (hb : base ≤ mb) (h : Mp W mb 0 (fun _ => none)) : Vx base W g mb (fun _ => none) (fun _ => 0) 0 (fun _ => none) :=
  ⟨hb, h, fun _ _ => rfl, fun i b hm => (by cases hm), fun i j h1 => absurd rfl h1⟩
/-- The view of a file's blocks: of two of one place the latter. -/
def lookI (l : List S39) : VM := l.foldl (fun m b => putM m b.f0.toNat b.f1) (fun _ => none)
theorem lookI_snoc (l : List S39) (b : S39) : lookI (l ++ [b]) = putM (lookI l) b.f0.toNat b.f1 := by simp [lookI, List.foldl_append]
theorem wrap_succ {j : Nat} (h : j < 4611686018427387904) : wrap64 ((j : Int) + 1) = ((j + 1 : Nat) : Int) := by unfold wrap64; omega
def look_T5 : Bool × List (List Nat × List Nat) := (true, [([], []), ([0], [0]), ([1], [1]), ([2], [2]), ([], []), ([4], [4]), ([], []), ([6], [6]), ([7], [7]), ([3, 5, 8, 8, 0, 1, 2, 3, 4, 5, 6, 7, 8], [3, 5, 8])])
def look_B5 : List Nat := [0, 1, 3, 7, 0, 16, 0, 64, 192, 511]
theorem look_tab5 : rtab .any (opsOf Tryd.f22 5) = look_T5 := by kernel_rfl
theorem look_bits5 : waitsOk look_T5.2 look_B5 = true := by kernel_rfl
set_option maxHeartbeats 8000000 in
set_option maxRecDepth 100000 in
theorem look_calls (sz : Int) (A : Option Addr) (c : Nat) (l : List S39) (w : World) (hC : Kd.C k39 w A l.length l) (hl : l.length ≤ 76) (hok : ∀ b ∈ l, 0 ≤ b.f0 ∧ b.f0 < 76 ∧ b.f1.length = 32) :
    Calls Tryd.prog 22 #[.agg #[.int .i64 sz, .slice A l.length c]] w fun e w' => ∃ g, e = .returned (.pointer (some ⟨g, 0, none⟩)) ∧ Vw w.heap.size w' g sz l.length (lookI l) ∧ Below w.heap.size w w' := by
  have HC := Aside0.mk hC
  have HOK := Aside0.mk hok
  have HL := Aside0.mk hl
  clear hC hok hl
  have hu29 := Tryd.underlying29
  have hu39 := Tryd.underlying39
  have hu71 := Tryd.underlying71
  have hu73 := Tryd.underlying73
  have km := fun (W : World) => run_makeMap (P := Tryd.prog) 71 W
  obtain ⟨g, hg⟩ : ∃ g, g = w.heap.size + 1 + 1 := ⟨_, rfl⟩
  obtain ⟨mb, hmb⟩ : ∃ m, m = w.heap.size + 1 := ⟨_, rfl⟩
  go_enter Tryd.func22, Tryd.ntmps22
  go_wp2
  obtain ⟨W0, hW0⟩ : ∃ W, W = (((w.alloc (Obj.cells #[.int .i64 sz, .slice A l.length c] 29)).alloc (Obj.map #[] 0)).alloc (Obj.cells #[.int .i64 sz, .map (some (w.heap.size + 1))] 73)) := ⟨_, rfl⟩
  rw [← hW0]
  have HB0 : Aside0 (Below w.heap.size w W0) := ⟨by rw [hW0]; exact below_alloc (below_alloc (below_alloc (Below.refl _ _) _) _) _⟩
  have HV0 : Aside0 (Vx w.heap.size W0 g mb (fun _ => none) (fun _ => 0) 0 (fun _ => none)) := ⟨by
    have h1 := Mp.made (w.alloc (Obj.cells #[.int .i64 sz, .slice A l.length c] 29))
    have e1 : (w.alloc (Obj.cells #[.int .i64 sz, .slice A l.length c] 29)).heap.size = w.heap.size + 1 := by simp
    rw [e1] at h1
    have h2 := h1.move (W' := W0) (by rw [hW0]; exact Below.heap_alloc _ _ _ (by simp))
    rw [hmb]
    exact Vx.none_ (by omega) h2⟩
  have HG0 : Aside0 (W0.heap[g]? = some (.cells #[.int .i64 sz, .map (some mb)] 73 (0, 0))) := ⟨by
    have h1 := (MapKept.heap_alloc ((w.alloc (Obj.cells #[.int .i64 sz, .slice A l.length c] 29)).alloc (Obj.map #[] 0)) (Obj.cells #[.int .i64 sz, .map (some (w.heap.size + 1))] 73)).1
    have e1 : ((w.alloc (Obj.cells #[.int .i64 sz, .slice A l.length c] 29)).alloc (Obj.map #[] 0)).heap.size = w.heap.size + 1 + 1 := by simp
    rw [e1] at h1
    rw [hW0, hg, hmb]
    exact h1⟩
  have HGE := Aside0.mk hg
  rw [← hg, ← hmb]
  clear hW0 hg hmb km
  go_loopw [14] (fun v14 W => ∃ (j : Nat) (V : Nat → Option Value) (bl : Nat → Nat), j ≤ l.length ∧ v14 = .int .i64 (j : Int) ∧ Aside0 (Vx w.heap.size W g mb V bl j (lookI (l.take j))) ∧ Aside0 (W.heap[g]? = some (.cells #[.int .i64 sz, .map (some mb)] 73 (0, 0))) ∧ Aside0 (Below w.heap.size w W)) (fun v14 _ => l.length - (intOf v14).toNat)
  case atStart => exact ⟨0, _, _, Nat.zero_le _, rfl, HV0, HG0, HB0⟩
  case round =>
    obtain ⟨j, V, bl, hj, rfl, HX, HG, HB⟩ := hrel
    have hl76 := HL.out
    clear HV0 HG0 HB0
    by_cases hlt : j < l.length
    · have hd : decide ((j : Int) < (l.length : Int)) = true := decide_eq_true (by omega)
      have hd2 : decide (j < l.length) = true := decide_eq_true hlt
      obtain ⟨ad, A1, c1, e1, hx0, hx1, hxl, hxc⟩ := at_T39 HC.out (j : Int) (by omega) (by omega)
      subst e1
      have hrd : rd_T39 l (j : Int) = l[j] := by
        unfold rd_T39
        rw [Int.toNat_natCast, List.getD_eq_getElem?_getD, List.getElem?_eq_getElem hlt]
        rfl
      have hmem : l[j] ∈ l := List.getElem_mem hlt
      have htk : l.take (j + 1) = l.take j ++ [l[j]] := by rw [List.take_add_one, List.getElem?_eq_getElem hlt]; rfl
      have hok := HOK.out _ hmem
      rw [hrd] at hx0 hx1 hxl hxc
      clear hrd hmem
      generalize l[j] = x at *
      obtain ⟨x0, x1⟩ := x
      simp only at hx0 hx1 hxl hxc hok
      obtain ⟨hok1, hok2, hok3⟩ := hok
      obtain ⟨i, hi⟩ : ∃ i : Nat, x0 = (i : Int) := ⟨x0.toNat, by omega⟩
      subst hi
      have hi76 : i < 76 := by omega
      replace hx0 := (HB.out.cell (World.block_lt_of_cell? w _ hx0)).trans hx0
      replace hx1 := (HB.out.cell (World.block_lt_of_cell? w _ hx1)).trans hx1
      have HXC := Aside0.mk (Kd.C_below hxc HB.out)
      have HXL := Aside0.mk hxl
      have HI := Aside0.mk hi76
      have H32 := Aside0.mk hok3
      have HTK := Aside0.mk htk
      have HJ := Aside0.mk hlt
      clear hxl hxc hi76 hok1 hok2 hok3 htk hl76
      have hp : (0 : Int) ≤ (j : Int) := by omega
      rw [Int.toNat_natCast] at hx0 hx1
      go_wp2
      obtain ⟨w4, hw4⟩ : ∃ W, W = wr.alloc (Obj.cells #[.int .i64 (i : Int), .slice A1 x1.length c1] 39) := ⟨_, rfl⟩
      obtain ⟨gb, hgb⟩ : ∃ k, k = wr.heap.size := ⟨_, rfl⟩
      have hba : Below wr.heap.size wr w4 := by rw [hw4]; exact below_alloc (Below.refl _ _) _
      have hbx : w4.heap[gb]? = some (.cells #[.int .i64 (i : Int), .slice A1 x1.length c1] 39 (0, 0)) := by rw [hw4, hgb]; exact (MapKept.heap_alloc _ _).1
      have HB4 := Aside0.mk (below_step HB.out hba)
      have HX4 := Aside0.mk (HX.out.below hba)
      have HG4 := Aside0.mk ((hba.block g (blk_lt HG.out)).trans HG.out)
      have HXC4 := Aside0.mk (Kd.C_below HXC.out hba)
      have HGB := Aside0.mk hbx
      have HNE : Aside0 (mb ≠ g ∧ mb ≠ gb) := ⟨by
        obtain ⟨es, c_, h1⟩ := HX4.out.map.obj
        refine ⟨fun e => ?_, fun e => ?_⟩
        · have h2 := HG4.out
          rw [← e, h1] at h2
          cases h2
        · rw [e, hbx] at h1
          cases h1⟩
      rw [← hw4, ← hgb]
      clear hbx hba hw4 hgb HB HX HXC HG
      have HS : Aside0 (∀ W', Below w4.heap.size w4 W' → W'.cell? ⟨g, 1, none⟩ = some (.map (some mb)) ∧ W'.cell? ⟨gb, 0, none⟩ = some (.int .i64 (i : Int)) ∧ W'.cell? ⟨gb, 1, none⟩ = some (.slice A1 x1.length c1)) := ⟨fun W' hb => by
        have a1 := (hb.block g (blk_lt HG4.out)).trans HG4.out
        have a2 := (hb.block gb (blk_lt HGB.out)).trans HGB.out
        exact ⟨(blk_cell a1 1).trans rfl, (blk_cell a2 0).trans rfl, (blk_cell a2 1).trans rfl⟩⟩
      have HS6 : Aside0 (∀ W' W'', Below w4.heap.size w4 W' → W'.grownBy W'' (some mb) → W''.cell? ⟨g, 1, none⟩ = some (.map (some mb)) ∧ W''.cell? ⟨gb, 0, none⟩ = some (.int .i64 (i : Int)) ∧ W''.cell? ⟨gb, 1, none⟩ = some (.slice A1 x1.length c1)) := ⟨fun W' W'' hb hg => by
        have b1 := (hb.block g (blk_lt HG4.out)).trans HG4.out
        have b2 := (hb.block gb (blk_lt HGB.out)).trans HGB.out
        have a1 := (hg.block g (blk_lt b1) (fun e => HNE.out.1 (by injection e with e; exact e.symm))).trans b1
        have a2 := (hg.block gb (blk_lt b2) (fun e => HNE.out.2 (by injection e with e; exact e.symm))).trans b2
        exact ⟨(blk_cell a1 1).trans rfl, (blk_cell a2 0).trans rfl, (blk_cell a2 1).trans rfl⟩⟩
      have HCL : Aside0 (bytes_Clone.f x1 = some x1) := ⟨by unfold bytes_Clone.f; rw [if_pos (by have := H32.out; omega)]⟩
      have HN : Aside0 (j < maxLen) := ⟨by have h1 := HL.out; have h2 := HJ.out; unfold maxLen; omega⟩
      have hs0 := HS.out w4.drew (below_drew1 (Below.refl _ _))
      obtain ⟨hs1, hs2, hs3⟩ := hs0
      refine start_ (n := 10) (S := fun w' => w'.cell? ⟨g, 1, none⟩ = some (.map (some mb)) ∧ w'.cell? ⟨gb, 0, none⟩ = some (.int .i64 (i : Int)) ∧ w'.cell? ⟨gb, 1, none⟩ = some (.slice A1 x1.length c1)) (ds := []) #[false, false, false, false, false, false, false, false, false, false] (by kernel_rfl) rfl rfl ⟨hs1, hs2, hs3⟩ (fun hHeld => ?_); refine with_tabW look_tab5 look_bits5 (fun HT_ HW_ => ?_)
      refine pure_ (i := 0) (N := some 18) (v := ?_) (a' := ?_) #[true, false, false, false, false, false, false, false, false, false] rfl rfl (any_of HT_.out (by kernel_rfl)) (fun _ _ _ h => h) (Or.inl ⟨by rfl, ?_⟩) ?_ ?_
      rotate_left
      · intro w'
        go_simp
        with_reducible rfl
      rotate_left
      · simp only [Act.put, List.setIfInBounds_toArray, List.set_cons_zero, List.set_cons_succ, i64_w, i32_w]
        rfl
      refine pure_ (i := 1) (N := some 19) (v := ?_) (a' := ?_) #[true, true, false, false, false, false, false, false, false, false] rfl rfl (any_of HT_.out (by kernel_rfl)) (fun _ _ _ h => h) (Or.inl ⟨by rfl, ?_⟩) ?_ ?_
      rotate_left
      · intro w'
        go_simp
        with_reducible rfl
      rotate_left
      · simp only [Act.put, List.setIfInBounds_toArray, List.set_cons_zero, List.set_cons_succ, i64_w, i32_w]
        rfl
      refine pure_ (i := 2) (N := some 20) (v := ?_) (a' := ?_) #[true, true, true, false, false, false, false, false, false, false] rfl rfl (any_of HT_.out (by kernel_rfl)) (fun _ _ _ h => h) (Or.inl ⟨by rfl, ?_⟩) ?_ ?_
      rotate_left
      · intro w'
        go_simp
        with_reducible rfl
      rotate_left
      · simp only [Act.put, List.setIfInBounds_toArray, List.set_cons_zero, List.set_cons_succ, i64_w, i32_w]
        rfl
      refine take_ (i := 3) (N := some 21) (v := ?_) (a' := ?_) #[true, true, true, true, false, false, false, false, false, false] rfl rfl (take_ofW HT_.out HW_.out (by kernel_rfl)) (fun _ _ _ h => h) (Or.inl ⟨by rfl, ?_⟩) hHeld ?_ ?_
      rotate_left
      · rintro w' ⟨s0, s1, s2⟩
        go_simp
        with_reducible rfl
      rotate_left
      · simp only [Act.put, List.setIfInBounds_toArray, List.set_cons_zero, List.set_cons_succ, i64_w, i32_w]
        rfl
      refine pure_ (i := 4) (N := some 22) (v := ?_) (a' := ?_) #[true, true, true, true, true, false, false, false, false, false] rfl rfl (any_of HT_.out (by kernel_rfl)) (fun _ _ _ h => h) (Or.inl ⟨by rfl, ?_⟩) ?_ ?_
      rotate_left
      · intro w'
        go_simp
        with_reducible rfl
      rotate_left
      · simp only [Act.put, List.setIfInBounds_toArray, List.set_cons_zero, List.set_cons_succ, i64_w, i32_w]
        rfl
      refine take_ (i := 5) (N := some 23) (v := ?_) (a' := ?_) #[true, true, true, true, true, true, false, false, false, false] rfl rfl (take_ofW HT_.out HW_.out (by kernel_rfl)) (fun _ _ _ h => h) (Or.inl ⟨by rfl, ?_⟩) hHeld ?_ ?_
      rotate_left
      · rintro w' ⟨s0, s1, s2⟩
        go_simp
        with_reducible rfl
      rotate_left
      · simp only [Act.put, List.setIfInBounds_toArray, List.set_cons_zero, List.set_cons_succ, i64_w, i32_w]
        rfl
      refine pure_ (i := 6) (N := some 24) (v := ?_) (a' := ?_) #[true, true, true, true, true, true, true, false, false, false] rfl rfl (any_of HT_.out (by kernel_rfl)) (fun _ _ _ h => h) (Or.inl ⟨by rfl, ?_⟩) ?_ ?_
      rotate_left
      · intro w'
        go_simp
        with_reducible rfl
      rotate_left
      · simp only [Act.put, List.setIfInBounds_toArray, List.set_cons_zero, List.set_cons_succ, i64_w, i32_w]
        rfl
      refine take_ (i := 7) (N := some 25) (v := ?_) (a' := ?_) #[true, true, true, true, true, true, true, true, false, false] rfl rfl (take_ofW HT_.out HW_.out (by kernel_rfl)) (fun _ _ _ h => h) (Or.inl ⟨by rfl, ?_⟩) hHeld ?_ ?_
      rotate_left
      · rintro w' ⟨s0, s1, s2⟩
        go_simp
        with_reducible rfl
      rotate_left
      · simp only [Act.put, List.setIfInBounds_toArray, List.set_cons_zero, List.set_cons_succ, i64_w, i32_w]
        rfl
      refine one_ (i := 8) (N := some 26) #[true, true, true, true, true, true, true, true, true, false] rfl rfl (one_of HT_.out (by kernel_rfl)) (by decide) (fun K hK => ?_)
      refine goes_ Tryd.func32 (by kernel_rfl) rfl #[.slice A1 x1.length c1] (by rfl) rfl rfl (by (try simp only [List.map_toArray, List.map_cons, List.map_nil]); first | done | rfl) ?_
      refine (bytes_Clone.calls A1 c1 x1 x1 _ (Kd.C_drew HXC4.out) HXL.out HCL.out).mono ?_
      rintro e_ w5 ⟨v5, rfl, ho, hb⟩
      refine ⟨_, rfl, ?_⟩
      have HO5 := Aside0.mk ho
      have HB5 := Aside0.mk (below_step (below_drew1 (Below.refl _ w4)) hb)
      clear ho hb
      refine hK.out _ _ (HS.out _ HB5.out) (fun hHeld => ?_)
      clear hK K
      refine norm_ (a' := ?_) ?_ ?_
      rotate_left
      · show Act.put _ (some 26) _ = _
        simp only [Act.put, List.setIfInBounds_toArray, List.set_cons_zero, List.set_cons_succ, i64_w, i32_w]
        rfl
      refine one_ (i := 9) (N := none) #[true, true, true, true, true, true, true, true, true, true] rfl rfl (one_of HT_.out (by kernel_rfl)) (by decide) (fun K hK => ?_)
      refine store_one (n := j) (by rfl) _ _ _ rfl rfl (by rfl) i v5 (by rfl) (by rfl) HI.out HN.out (HX4.out.below HB5.out).map ?_
      intro w6 hm6 hg6
      have HM6 := Aside0.mk hm6
      have HG6 := Aside0.mk hg6
      clear hm6 hg6
      refine hK.out _ _ (HS6.out _ _ HB5.out HG6.out) (fun hHeld => ?_)
      clear hK K
      refine norm_ (a' := ?_) ?_ ?_
      rotate_left
      · show Act.put _ (none) _ = _
        simp only [Act.put, List.setIfInBounds_toArray, List.set_cons_zero, List.set_cons_succ, i64_w, i32_w]
        rfl
      refine done_ (done_of HT_.out (by kernel_rfl)) ?_
      have hj46 : j < 4611686018427387904 := by have h1 := HL.out; have h2 := HJ.out; omega
      have HW := Aside0.mk (wrap_succ hj46)
      clear hj46
      have hX6 : ∃ bl', Vx w.heap.size w6 g mb (putV V i v5) bl' (j + 1) (lookI (l.take (j + 1))) := by
        have hR := HO5.out
        have hl5 : x1.length = 32 := H32.out
        obtain ⟨k, hk⟩ : ∃ k, v5.ownBlock = some k := by
          obtain ⟨_, inner, ho, _⟩ := hR
          rcases ho.2 with ⟨_, h2⟩ | ⟨q, cap, cur, rfl, _⟩
          · omega
          · exact ⟨q, rfl⟩
        have hR2 : Kd.R (Kd.int .u8) 5 w5 w.heap.size (fun q => q = k) v5 x1 := by
          obtain ⟨h0, inner, ho, hr⟩ := hR
          exact ⟨fun q hq => by rw [hk] at hq; exact (Option.some.inj hq).symm, inner, own_weaken ho HB4.out.size, hr.imp_ (fun _ _ hp => hp)⟩
        have hkn : w4.heap.size ≤ k := by
          obtain ⟨_, inner, ho, _⟩ := hR
          exact own_base ho k hk
        refine ⟨fun q => if q = i then k else bl q, ?_⟩
        rw [HTK.out, lookI_snoc]
        exact (HX4.out.below HB5.out).put HI.out hR2 hl5 (fun q hq => by have h1 := (HX4.out.blk hq).2.1; omega) HM6.out HG6.out
      obtain ⟨bl', hX6⟩ := hX6
      have HB6 : Aside0 (Below w.heap.size w w6) := ⟨below_weaken (below_step HB4.out HB5.out) (Nat.le_refl _) (Below.grown (Below.refl _ _) HG6.out (below_step HB4.out HB5.out).size (fun k hk => by injection hk with hk; subst hk; exact HX4.out.low))⟩
      have HG6' : Aside0 (w6.heap[g]? = some (.cells #[.int .i64 sz, .map (some mb)] 73 (0, 0))) := ⟨by
        have b1 := (HB5.out.block g (blk_lt HG4.out)).trans HG4.out
        exact (HG6.out.block g (blk_lt b1) (fun e => HNE.out.1 (by injection e with e; exact e.symm))).trans b1⟩
      have HX6 := Aside0.mk hX6
      clear hX6 HS HS6
      go_wp2
      have hjj := HJ.out
      refine ⟨⟨j + 1, _, _, hjj, by rw [HW.out], HX6, HG6', HB6⟩, ?_⟩
      rw [HW.out]
      simp only [intOf]
      omega
    · have hjN : j = l.length := by omega
      have hd : decide ((j : Int) < (l.length : Int)) = false := decide_eq_false (by omega)
      have hd2 : decide (j < l.length) = false := decide_eq_false hlt
      go_wp2
      go_ret
      refine ⟨g, rfl, ?_, HB.out⟩
      exact Vw.of (Nat.le_trans (Nat.le_succ _) (Nat.le_trans (Nat.le_succ _) (Nat.le_of_eq HGE.out.symm))) HG.out (by rw [hjN, List.take_length] at HX; exact HX.out)
/-! #### octets laid into a row of one's own -/
theorem grown_setRow (W : World) (g : Nat) (cs : Array Value) : W.grownBy (W.setRow g cs) (some g) := ⟨rfl, rfl, rfl, by simp, fun k _ hne => setRow_other W g k cs (fun e => hne (by rw [e]))⟩
theorem grown_setCells (g : Nat) : ∀ (vs : List Value) (o : Nat) (W : World), W.grownBy (W.setCells g o vs) (some g)
  | [], _, W => ⟨rfl, rfl, rfl, Nat.le_refl _, fun _ _ _ => rfl⟩
  | v :: r, o, W => by
    have h1 : W.grownBy (W.setCell ⟨g, o, none⟩ v) (some g) := ⟨rfl, rfl, rfl, by simp [World.setCell], fun k _ hne => Below.heap_setCell W ⟨g, o, none⟩ v k (fun e => hne (by rw [e]))⟩
    exact h1.andThen (grown_setCells g r (o + 1) _) (fun j hj => .inr hj)
theorem own_parts {W : World} {base q : Nat} {v : Value} {b : List Int} (h : Kd.R (Kd.int .u8) 5 W base (fun k => k = q) v b) (hl : 0 < b.length) :
    ∃ cap cur, v = .slice (some ⟨q, 0, none⟩) b.length cap ∧ base ≤ q ∧ W.heap[q]? = some (.cells cur 5 (0, 0)) ∧ b.length ≤ cap ∧ cap ≤ maxLen ∧ cur.size = cap ∧ cur.toList.take b.length = b.map (Value.int .u8) := by
  have ho := Kd.own_of_R h
  rcases ho.2 with ⟨_, h2⟩ | ⟨g, cap, cur, rfl, hq, hh, hc, hm, hs, ht⟩
  · omega
  · obtain rfl : g = q := h.1 g rfl
    refine ⟨cap, cur, rfl, hq, hh, hc, hm, by omega, ?_⟩
    rw [Nat.mul_one] at ht
    exact ht
theorem own_made {W : World} {base q cap : Nat} {b : List Int} {cur : Array Value} (hq : base ≤ q) (hh : W.heap[q]? = some (.cells cur 5 (0, 0))) (hc : b.length ≤ cap) (hm : cap ≤ maxLen) (hs : cur.size = cap) (ht : cur.toList.take b.length = b.map (Value.int .u8)) :
    Kd.R (Kd.int .u8) 5 W base (fun k => k = q) (.slice (some ⟨q, 0, none⟩) b.length cap) b := by
  refine Kd.R_of_own ?_ (fun k hk => by simp [Value.ownBlock] at hk; exact hk.symm)
  exact ⟨by rw [encs_length, Nat.mul_one], .inr ⟨q, cap, cur, rfl, hq, hh, hc, hm, by omega, by rw [Nat.mul_one]; exact ht⟩⟩
/-- What the row's front is behind cs has been laid in at o. -/
theorem laid_take {cur : List Value} {b cs : List Int} {o : Nat} (ht : cur.take b.length = b.map (Value.int .u8)) (ho : o + cs.length ≤ b.length) (hl : b.length ≤ cur.length) :
    (cur.take o ++ cs.map (Value.int .u8) ++ cur.drop (o + cs.length)).take b.length = (b.take o ++ cs ++ b.drop (o + cs.length)).map (Value.int .u8) := by
  have h1 : cur.take o = (b.take o).map (Value.int .u8) := by
    rw [List.map_take, ← ht, List.take_take, Nat.min_eq_left (by omega)]
  have h2 : (cur.drop (o + cs.length)).take (b.length - (o + cs.length)) = (b.drop (o + cs.length)).map (Value.int .u8) := by
    rw [List.map_drop, ← ht, List.drop_take]
  rw [List.take_append, List.take_of_length_le (by simp; omega), List.map_append, List.map_append, ← h1, ← h2]
  congr 2
  simp
  omega
theorem laid_len {b cs : List Int} {o : Nat} (ho : o + cs.length ≤ b.length) : (b.take o ++ cs ++ b.drop (o + cs.length)).length = b.length := by simp; omega
theorem C_cells {w : World} {A : Option Addr} {n : Nat} {l : List Int} (h : Kd.C (Kd.int .u8) w A n l) (hn : 0 < n) : ∃ b, A = some b ∧ ∀ j v, (l.map (Value.int .u8))[j]? = some v → w.cell? (b.add j) = some v := by
  obtain ⟨_, _, h3⟩ := h
  obtain ⟨b, rfl, hcs⟩ := h3 hn
  refine ⟨b, rfl, fun j v hj => ?_⟩
  rw [List.getElem?_map] at hj
  obtain ⟨x, hx, rfl⟩ := Option.map_eq_some_iff.1 hj
  obtain ⟨c, hc, hk, hcc⟩ := hcs j x hx
  have e : c = [.int .u8 x] := hk
  subst e
  have := hcc 0 _ rfl
  rw [Nat.add_zero] at this
  have e1 : j * (Kd.int .u8).sz = j := Nat.mul_one j
  rwa [e1] at this
/-- copy(v[o:], d), d not empty. -/
theorem copy_at {W : World} {base q o m : Nat} {v : Value} {b d : List Int} {A : Option Addr} (h : Kd.R (Kd.int .u8) 5 W base (fun k => k = q) v b) (ho : o < b.length) (hC : Kd.C (Kd.int .u8) W A m d) (hm : 0 < m) :
    ∃ W', (∀ ty dc sc, (Builtin.copy_ #[25, 25] ty #[.slice (some ⟨q, o, none⟩) (b.length - o) dc, .slice A m sc]).run Tryd.prog W = .ok (.int .i64 ((Nat.min m (b.length - o) : Nat) : Int)) W') ∧ Kd.R (Kd.int .u8) 5 W' base (fun k => k = q) v (b.take o ++ d.take (Nat.min m (b.length - o)) ++ b.drop (o + Nat.min m (b.length - o))) ∧ W.grownBy W' (some q) := by
  obtain ⟨cap, cur, rfl, hq, hh, hc, hmx, hs, ht⟩ := own_parts h (by omega)
  obtain ⟨a, rfl, hcs⟩ := C_cells hC hm
  have hdl : d.length = m := hC.1
  obtain ⟨n, hn⟩ : ∃ n, n = Nat.min m (b.length - o) := ⟨_, rfl⟩
  have hn1 : n ≤ m := by rw [hn]; exact Nat.min_le_left _ _
  have hn2 : n ≤ b.length - o := by rw [hn]; exact Nat.min_le_right _ _
  rw [← hn]
  have htl : (d.take n).length = n := by rw [List.length_take]; omega
  have hmd : Nat.min m (b.length - o) = ((d.take n).map (Value.int .u8)).length := by rw [List.length_map, htl, hn]
  obtain ⟨i0, hi0, _, hs0, _⟩ := info_parts info5
  refine ⟨W.setRow q (cur.toList.take o ++ (d.take n).map (Value.int .u8) ++ cur.toList.drop (o + ((d.take n).map (Value.int .u8)).length)).toArray, fun ty dc sc => ?_, ?_, grown_setRow W q _⟩
  · have h_ := run_copy_row (P := Tryd.prog) W 25 25 ty 5 q o (b.length - o) dc a m sc cur 5 ((d.take n).map (Value.int .u8)) Tryd.underlying25 (by rw [hi0]; simp [hs0]) hh hmd.symm (fun j u hj => hcs j u (by
      rw [List.map_take, List.getElem?_take] at hj
      split at hj
      · exact hj
      · cases hj)) (by rw [List.length_map, htl, hs]; omega) (fun u hu => by
        obtain ⟨x, _, rfl⟩ := List.mem_map.1 hu
        rfl)
    rw [h_, List.length_map, htl]
    rfl
  · have hlen := laid_len (b := b) (cs := d.take n) (o := o) (by rw [htl]; omega)
    have hk := laid_take (cur := cur.toList) (b := b) (cs := d.take n) (o := o) ht (by rw [htl]; omega) (Nat.le_trans hc (Nat.le_of_eq (by rw [Array.length_toList, hs])))
    rw [htl] at hlen hk
    have hhr := setRow_heap W q cur (cur.toList.take o ++ (d.take n).map (Value.int .u8) ++ cur.toList.drop (o + ((d.take n).map (Value.int .u8)).length)).toArray 5 (0, 0) hh
    rw [← hlen]
    refine own_made hq hhr (by rw [hlen]; exact hc) hmx ?_ ?_
    · have : (cur.toList.length) = cap := by rw [Array.length_toList, hs]
      simp
      omega
    · rw [hlen, List.length_map, htl]
      exact hk
/-- clear(v[o:]). -/
theorem clear_at {W : World} {base q o : Nat} {v : Value} {b : List Int} (h : Kd.R (Kd.int .u8) 5 W base (fun k => k = q) v b) (hb : 0 < b.length) (ho : o ≤ b.length) :
    ∃ W', (∀ ty dc A, (A = some ⟨q, o, none⟩ ∨ o = b.length) → (Builtin.clear_ #[25] ty #[.slice A (b.length - o) dc]).run Tryd.prog W = .ok (.tuple #[]) W') ∧ Kd.R (Kd.int .u8) 5 W' base (fun k => k = q) v (b.take o ++ List.replicate (b.length - o) 0) ∧ W.grownBy W' (some q) := by
  obtain ⟨cap, cur, rfl, hq, hh, hc, hmx, hs, ht⟩ := own_parts h hb
  have hz : ∀ w, (zeroValue 5).run Tryd.prog w = .ok (.int .u8 0) w := fun w => by
    obtain ⟨i0, hi0, hz0, _, _⟩ := info_parts info5
    simp [zeroValue, typeInfo, hi0, hz0]
  by_cases hlt : o < b.length
  · refine ⟨W.setCells q o (List.replicate (b.length - o) (.int .u8 0)), fun ty dc A hA => ?_, ?_, grown_setCells q _ o W⟩
    · obtain rfl : A = some ⟨q, o, none⟩ := by
        rcases hA with h1 | h1
        · exact h1
        · omega
      refine Lib.run_clear_slice W 25 5 ty (.int .u8 0) Tryd.underlying25 hz rfl rfl q o (b.length - o) dc (by omega) (fun j hj => ?_) (fun j _ => blk_frozen hh _)
      rw [blk_cell hh]
      simp
      omega
    · obtain ⟨cur', h2, h3, h4⟩ := setCells_row (e := 5) (List.replicate (b.length - o) (Value.int .u8 0)) o W cur hh (by simp; omega)
      have hrl : (List.replicate (b.length - o) (0 : Int)).length = b.length - o := List.length_replicate
      have hlen := laid_len (b := b) (cs := List.replicate (b.length - o) (0 : Int)) (o := o) (by rw [hrl]; omega)
      have hk := laid_take (cur := cur.toList) (b := b) (cs := List.replicate (b.length - o) (0 : Int)) (o := o) ht (by rw [hrl]; omega) (Nat.le_trans hc (Nat.le_of_eq (by rw [Array.length_toList, hs])))
      have hd : b.drop (o + (List.replicate (b.length - o) (0 : Int)).length) = [] := List.drop_eq_nil_of_le (by rw [hrl]; omega)
      rw [hd, List.append_nil] at hlen hk
      have hR := own_made (b := b.take o ++ List.replicate (b.length - o) 0) hq h2 (by rw [hlen]; exact hc) hmx (by rw [h3]; exact hs) (by
        rw [hlen, h4, ← hk]
        simp)
      rw [hlen] at hR
      exact hR
  · have ho2 : o = b.length := by omega
    subst ho2
    refine ⟨W, fun ty dc A _ => ?_, ?_, ⟨rfl, rfl, rfl, Nat.le_refl _, fun _ _ _ => rfl⟩⟩
    · rw [Nat.sub_self]
      have hu := Tryd.underlying25
      cases A with
      | none => simp [Builtin.clear_, run_underlying hu]
      | some a => simp [Builtin.clear_, run_underlying hu]
    · rw [Nat.sub_self, List.replicate_zero, List.append_nil, List.take_length]
      exact h
def write_T4 : Bool × List (List Nat × List Nat) := (true, [([], []), ([0], [0]), ([1], [1]), ([2], [2]), ([], []), ([], []), ([3, 4, 5, 0, 1, 2, 3, 4, 5], [3, 4, 5])])
def write_B4 : List Nat := [0, 1, 3, 7, 0, 0, 63]
theorem write_tab4 : rtab .any (opsOf Tryd.f25 4) = write_T4 := by kernel_rfl
theorem write_bits4 : waitsOk write_T4.2 write_B4 = true := by kernel_rfl
/-- The row at i has been written, in place. -/
theorem Vx.turn {base : Nat} {W W' : World} {g mb : Nat} {V : Nat → Option Value} {bl : Nat → Nat} {n : Nat} {m : VM} (h : Vx base W g mb V bl n m) {i : Nat} {b b' : List Int} {v : Value} (hm : m i = some b) (hv : V i = some v) (hR : Kd.R (Kd.int .u8) 5 W' base (fun k => k = bl i) v b') (hl : b'.length = 32) (hg : W.grownBy W' (some (bl i))) : Vx base W' g mb V bl n (putM m i b') := by
  have hi76 : i < 76 := by
    obtain ⟨_, _, _, _, h5⟩ := h.yes i b hm
    exact h5
  have hmi : m i ≠ none := by rw [hm]; simp
  refine ⟨h.low, h.map.move (hg.block mb h.map.lt (fun e => h.blk_ne hmi (Option.some.inj e).symm)), fun j hj => ?_, fun j c hj => ?_, fun j1 j2 h1 h2 h3 => ?_⟩
  · unfold putM at hj
    split at hj
    · cases hj
    · exact h.no j hj
  · unfold putM at hj
    split at hj
    · rename_i e
      subst e
      obtain rfl := Option.some.inj hj
      exact ⟨v, hv, hR, hl, hi76⟩
    · rename_i e
      obtain ⟨u, h1, h2, h3, h4⟩ := h.yes j c hj
      exact ⟨u, h1, Kd.R_grown h2 hg (fun q hq => by rw [hq]; intro e_; exact e (h.inj j i (by rw [hj]; simp) hmi (Option.some.inj e_))), h3, h4⟩
  · refine h.inj j1 j2 ?_ ?_ h3
    · unfold putM at h1
      split at h1
      · rename_i e
        rw [e]
        exact hmi
      · exact h1
    · unfold putM at h2
      split at h2
      · rename_i e
        rw [e]
        exact hmi
      · exact h2
def sliceLenF : Value → Nat
  | .slice _ n _ => n
  | _ => 0
theorem wr_quo {o : Nat} (h : o ≤ 5000) : wrap64 ((o : Int) / 32) = ((o / 32 : Nat) : Int) := by unfold wrap64; omega
theorem wr_add {o n : Nat} (h : o + n ≤ 5000) : wrap64 ((o : Int) + (n : Int)) = ((o + n : Nat) : Int) := by unfold wrap64; omega
def zeros32 : List Int := List.replicate 32 0
theorem zeros32_len : zeros32.length = 32 := rfl
/-- One round of writing: the octets of d that go into the block at o. -/
def stepN (o : Nat) (d : List Int) : Nat := Nat.min d.length (32 - o % 32)
def stepB (m : VM) (o : Nat) (d : List Int) : List Int := ((m (o / 32)).getD zeros32).take (o % 32) ++ d.take (stepN o d) ++ ((m (o / 32)).getD zeros32).drop (o % 32 + stepN o d)
def writeK : Nat → VM → Nat → List Int → VM
  | 0, m, _, _ => m
  | k + 1, m, o, d => if d.length = 0 then m else writeK k (putM m (o / 32) (stepB m o d)) (o + stepN o d) (d.drop (stepN o d))
def writeI (m : VM) (o : Nat) (d : List Int) : VM := writeK d.length m o d
theorem writeK_none {k : Nat} {m : VM} {o : Nat} {d : List Int} (h : d.length = 0) : writeK k m o d = m := by
  cases k with
  | zero => rfl
  | succ k => unfold writeK; rw [if_pos h]
theorem putM_putM (m : VM) (i : Nat) (a b : List Int) : putM (putM m i a) i b = putM m i b := by
  funext j
  unfold putM
  split <;> rfl
set_option maxHeartbeats 8000000 in
set_option maxRecDepth 100000 in
theorem write_calls (w0 : World) (g n0 : Nat) (sz : Int) (m0 : VM) (off : Nat) (A : Option Addr) (c : Nat) (d : List Int) (w : World) (hB : Below w0.heap.size w0 w) (hV : Vw w0.heap.size w g sz n0 m0) (hC : Kd.C (Kd.int .u8) w0 A d.length d) (hc : d.length ≤ c) (hoff : off + d.length ≤ 2432) (hn : n0 ≤ 1000) (hsz : 0 ≤ sz ∧ sz ≤ 2432) :
    Calls Tryd.prog 25 #[.pointer (some ⟨g, 0, none⟩), .int .i64 (off : Int), .slice A d.length c] w fun e w' => e = .returned (.tuple #[]) ∧ Vw w0.heap.size w' g (max sz ((off + d.length : Nat) : Int)) (n0 + d.length) (writeI m0 off d) ∧ Below w0.heap.size w0 w' := by
  obtain ⟨mb, V0, bl0, hg, hbx, hX⟩ := hV.parts
  have HB0 := Aside0.mk hB
  have HX0 := Aside0.mk hX
  have HBX := Aside0.mk hbx
  have HG := Aside0.mk hg
  have HC := Aside0.mk hC
  have HCC := Aside0.mk hc
  have HO := Aside0.mk hoff
  have HN0 := Aside0.mk hn
  have hgc0 : w.cell? ⟨g, 0, none⟩ = some (.int .i64 sz) := (blk_cell hbx 0).trans rfl
  have hgc1 : w.cell? ⟨g, 1, none⟩ = some (.map (some mb)) := (blk_cell hbx 1).trans rfl
  have hgf0 := blk_frozen hbx 0
  have hd63 : (d.length : Int) ≤ 2432 := by omega
  have hw : wrap64 ((off : Int) + (d.length : Int)) = ((off + d.length : Nat) : Int) := by unfold wrap64; omega
  have HW := Aside0.mk hw
  clear hB hV hX hbx hg hC hc hoff hn hw hd63
  have hu73 := Tryd.underlying73
  obtain ⟨S, hS⟩ : ∃ S, S = max sz ((off + d.length : Nat) : Int) := ⟨_, rfl⟩
  rw [← hS]
  have hmx : (if sz < wrap64 ((off : Int) + (d.length : Int)) then wrap64 ((off : Int) + (d.length : Int)) else sz) = S := by
    rw [HW.out, hS]
    split <;> omega
  obtain ⟨RR, hRR⟩ : ∃ r, r = writeI m0 off d := ⟨_, rfl⟩
  have HRR : Aside0 (writeK d.length m0 off d = RR) := ⟨hRR.symm⟩
  rw [← hRR]
  clear hRR
  obtain ⟨NN, hNN⟩ : ∃ r, r = n0 + d.length := ⟨_, rfl⟩
  have HNN : Aside0 (n0 + d.length = NN) := ⟨hNN.symm⟩
  have HNM : Aside0 (NN ≤ 4000) := ⟨by rw [hNN]; have h1_ := HN0.out; have h2_ := HO.out; omega⟩
  rw [← hNN]
  clear hNN HN0 hS hsz HW
  go_enter Tryd.func25, Tryd.ntmps25
  go_wp2
  clear hmx
  obtain ⟨W1, hW1⟩ : ∃ W, W = w.setCell ⟨g, 0, none⟩ (.int .i64 S) := ⟨_, rfl⟩
  rw [← hW1]
  have HB1 : Aside0 (Below w0.heap.size w0 W1) := ⟨by rw [hW1]; exact below_set HB0.out HG.out⟩
  have HBX1 : Aside0 (W1.heap[g]? = some (.cells #[.int .i64 S, .map (some mb)] 73 (0, 0))) := ⟨by rw [hW1]; exact blk_put HBX.out 0 _ rfl⟩
  have HX1 : Aside0 (Vx w0.heap.size W1 g mb V0 bl0 n0 m0) := ⟨by
    rw [hW1]
    refine HX0.out.move (Below.heap_setCell _ _ _ _ ?_) (fun j hj => Below.heap_setCell _ _ _ _ ?_)
    · intro e
      obtain ⟨es, c_, h_⟩ := HX0.out.map.obj
      have h2 := HBX.out
      rw [show mb = g from e] at h_
      rw [h_] at h2
      cases h2
    · intro e
      obtain ⟨_, _, cells, h_⟩ := HX0.out.blk hj
      have h2 := HBX.out
      rw [show bl0 j = g from e, h2] at h_
      injection h_ with h_
      injection h_ with _ h_
      exact absurd h_ (by decide)⟩
  clear hW1 HB0 HBX HX0 hgc0 hgc1 hgf0
  go_loopw [1, 2] (fun v1 v2 W => ∃ (o k : Nat) (dl : List Int) (A2 : Option Addr) (c2 : Nat) (V : Nat → Option Value) (bl : Nat → Nat) (n : Nat) (m : VM), v1 = .int .i64 (o : Int) ∧ v2 = .slice A2 dl.length c2 ∧ Aside0 (dl.length ≤ c2) ∧ Aside0 (Kd.C (Kd.int .u8) w0 A2 dl.length dl) ∧ Aside0 (writeK k m o dl = RR ∧ dl.length ≤ k) ∧ Aside0 (Vx w0.heap.size W g mb V bl n m) ∧ Aside0 (W.heap[g]? = some (.cells #[.int .i64 S, .map (some mb)] 73 (0, 0))) ∧ Aside0 (Below w0.heap.size w0 W) ∧ Aside0 (o + dl.length ≤ 2432 ∧ n + dl.length ≤ NN)) (fun _ v2 _ => sliceLenF v2)
  case atStart => exact ⟨off, d.length, d, A, c, V0, bl0, n0, m0, rfl, rfl, HCC, HC, ⟨HRR.out, Nat.le_refl _⟩, HX1, HBX1, HB1, ⟨HO.out, Nat.le_of_eq HNN.out⟩⟩
  case round =>
    obtain ⟨o, k, dl, A2, c2, V, bl, n, m, rfl, rfl, HCC2, HC2, HR2, HX, HBXw, HB, HOB⟩ := hrel
    clear HX1 HBX1 HB1 HRR HC HCC HO HNN
    have hgc1 : wr.cell? ⟨g, 1, none⟩ = some (.map (some mb)) := (blk_cell HBXw.out 1).trans rfl
    by_cases h0 : dl.length = 0
    · have hd : decide ((0 : Int) < (dl.length : Int)) = false := decide_eq_false (by omega)
      have hd2 : decide (0 < dl.length) = false := decide_eq_false (by omega)
      have HR3 : Aside0 (m = RR) := ⟨by rw [← HR2.out.1, writeK_none h0]⟩
      go_wp2
      go_end0
      refine ⟨rfl, ?_, HB.out⟩
      rw [← HR3.out]
      exact Vw.of HG.out HBXw.out (HX.out.mono (Nat.le_trans (Nat.le_add_right _ _) HOB.out.2))
    · have hd : decide ((0 : Int) < (dl.length : Int)) = true := decide_eq_true (by omega)
      have hd2 : decide (0 < dl.length) = true := decide_eq_true (by omega)
      have hob := HOB.out
      obtain ⟨i, hi⟩ : ∃ i, i = o / 32 := ⟨_, rfl⟩
      obtain ⟨a, ha⟩ : ∃ a, a = o % 32 := ⟨_, rfl⟩
      have hq2 : (o : Int) % 32 = (a : Int) := by omega
      have ha32 : a < 32 := by omega
      have hi76 : i < 76 := by omega
      obtain ⟨N, hN⟩ : ∃ N, N = stepN o dl := ⟨_, rfl⟩
      have hN0 : N = Nat.min dl.length (32 - a) := by rw [hN, ha]; rfl
      have hN1 : N ≤ dl.length := by rw [hN0]; exact Nat.min_le_left _ _
      have hN2 : N ≤ 32 - a := by rw [hN0]; exact Nat.min_le_right _ _
      have hN3 : 1 ≤ N := by rw [hN0]; exact Nat.le_min.2 ⟨by omega, by omega⟩
      obtain ⟨k', rfl⟩ : ∃ k', k = k' + 1 := ⟨k - 1, by have := HR2.out.2; omega⟩
      have hR3 : writeK k' (putM m i (stepB m o dl)) (o + N) (dl.drop N) = RR := by
        have h_ := HR2.out.1
        unfold writeK at h_
        rw [if_neg h0, ← hN, ← hi] at h_
        exact h_
      have hk3 : (dl.drop N).length ≤ k' := by have := HR2.out.2; rw [List.length_drop]; omega
      have hsB : stepB m o dl = ((m i).getD zeros32).take a ++ dl.take N ++ ((m i).getD zeros32).drop (a + N) := by unfold stepB; rw [← hi, ← ha, ← hN]
      obtain ⟨i0, hi0, hz0, hs0, _⟩ := info_parts info5
      have kd : ∀ W : World, (Instr.slice 25 (.slice A2 dl.length c2) (some (.int .i64 (N : Int))) none none).run Tryd.prog W = .ok (.slice (if c2 = N then A2 else A2.map (·.add (N * 1))) (dl.length - N) (c2 - N)) W := fun W => by
        have h_ := cut_from (P := Tryd.prog) 25 5 .i64 Tryd.underlying25 hi0 1 hs0 A2 dl.length c2 (N : Int) (by omega) (by omega) W
        rwa [Int.toNat_natCast] at h_
      have hCd : Kd.C (Kd.int .u8) w0 (if c2 = N then A2 else A2.map (·.add (N * 1))) (dl.drop N).length (dl.drop N) := Kd.C_drop HC2.out hN1 HCC2.out
      have hld : (dl.drop N).length = dl.length - N := List.length_drop
      generalize (if c2 = N then A2 else A2.map (·.add (N * 1))) = A3 at kd hCd
      have kc : ∀ (q cap : Nat) (W : World), (Instr.slice 25 (.slice (some ⟨q, 0, none⟩) 32 cap) (some (.int .i64 (a : Int))) none none).run Tryd.prog W = .ok (.slice (if cap = a then some ⟨q, 0, none⟩ else some ⟨q, a, none⟩) (32 - a) (cap - a)) W := fun q cap W => by
        have h_ := cut_from (P := Tryd.prog) 25 5 .i64 Tryd.underlying25 hi0 1 hs0 (some ⟨q, 0, none⟩) 32 cap (a : Int) (by omega) (by omega) W
        rw [Int.toNat_natCast, Nat.mul_one] at h_
        rw [h_]
        simp [Addr.add_lit]
      have HI := Aside0.mk hi76
      have HA := Aside0.mk ha32
      have HQ1 : Aside0 (wrap64 ((o : Int) / 32) = (i : Int)) := ⟨by rw [hi]; exact wr_quo (by omega)⟩
      have HON : Aside0 (wrap64 ((o : Int) + (N : Int)) = ((o + N : Nat) : Int)) := ⟨wr_add (by omega)⟩
      have HN := Aside0.mk hN0
      have HN1 := Aside0.mk hN1
      have HN2 := Aside0.mk hN2
      have HN3 := Aside0.mk hN3
      have HR3 := Aside0.mk hR3
      have HK3 := Aside0.mk hk3
      have HSB := Aside0.mk hsB
      have HCD := Aside0.mk hCd
      have HLD := Aside0.mk hld
      have HC2L := Aside0.mk HCC2.out
      have HL0 := Aside0.mk h0
      have HN4 : Aside0 (n < maxLen) := ⟨by have h1_ := HNM.out; unfold maxLen; omega⟩
      have HOB3 : Aside0 (o + N + (dl.drop N).length ≤ 2432) := ⟨by rw [hld]; omega⟩
      have HOB4 : Aside0 (n + 1 + (dl.drop N).length ≤ NN) := ⟨by rw [hld]; omega⟩
      clear hob hi ha ha32 hi76 hN hN0 hN1 hN2 hN3 hR3 hk3 hsB hCd hld h0 hs0 hz0 hi0 HR2 HOB
      have HNE : Aside0 (mb ≠ g) := ⟨fun e => by
        obtain ⟨es, c_, h1⟩ := HX.out.map.obj
        have h2 := HBXw.out
        rw [← e, h1] at h2
        cases h2⟩
      have hq1 := HQ1.out
      cases hmi : m i with
      | none =>
        have hV0 : V i = none := HX.out.no i hmi
        have hvi : (V i).getD (.slice none 0 0) = .slice none 0 0 := by rw [hV0]; rfl
        have he : ∀ W : World, (binOp .eql 25 (.slice none 0 0) (.slice none 0 0)).run Tryd.prog W = .ok (.bool true) W := fun W => Lib.run_eql_slice_nil W 25 5 none 0 0 0 0 Tryd.underlying25
        have HMI := Aside0.mk hmi
        have HS : Aside0 (∀ W', Below wr.heap.size wr W' → W'.cell? ⟨g, 1, none⟩ = some (.map (some mb))) := ⟨fun W' hb => (blk_cell ((hb.block g (blk_lt HBXw.out)).trans HBXw.out) 1).trans rfl⟩
        have HS6 : Aside0 (∀ W' W'', Below wr.heap.size wr W' → W'.grownBy W'' (some mb) → W''.cell? ⟨g, 1, none⟩ = some (.map (some mb))) := ⟨fun W' W'' hb hg => by
          have b1 := (hb.block g (blk_lt HBXw.out)).trans HBXw.out
          have a1 := (hg.block g (blk_lt b1) (fun e => HNE.out (by injection e with e; exact e.symm))).trans b1
          exact (blk_cell a1 1).trans rfl⟩
        have hs1 := HS.out wr.drew (below_drew1 (Below.refl _ _))
        clear hmi hV0
        have hlk := HX.out.map.look HI.out
        rw [hvi] at hlk
        go_wp2
        clear he hvi hlk
        refine start_ (n := 7) (S := fun w' => w'.cell? ⟨g, 1, none⟩ = some (.map (some mb))) (ds := []) #[false, false, false, false, false, false, false] (by kernel_rfl) rfl rfl hs1 (fun hHeld => ?_); refine with_tabW write_tab4 write_bits4 (fun HT_ HW_ => ?_)
        refine pure_ (i := 0) (N := some 35) (v := ?_) (a' := ?_) #[true, false, false, false, false, false, false] rfl rfl (any_of HT_.out (by kernel_rfl)) (fun _ _ _ h => h) (Or.inl ⟨by rfl, ?_⟩) ?_ ?_
        rotate_left
        · intro w'
          go_simp
          with_reducible rfl
        rotate_left
        · simp only [Act.put, List.setIfInBounds_toArray, List.set_cons_zero, List.set_cons_succ, i64_w, i32_w]
          rfl
        refine pure_ (i := 1) (N := some 36) (v := ?_) (a' := ?_) #[true, true, false, false, false, false, false] rfl rfl (any_of HT_.out (by kernel_rfl)) (fun _ _ _ h => h) (Or.inl ⟨by rfl, ?_⟩) ?_ ?_
        rotate_left
        · intro w'
          go_simp
          with_reducible rfl
        rotate_left
        · simp only [Act.put, List.setIfInBounds_toArray, List.set_cons_zero, List.set_cons_succ, i64_w, i32_w]
          rfl
        refine pure_ (i := 2) (N := some 37) (v := ?_) (a' := ?_) #[true, true, true, false, false, false, false] rfl rfl (any_of HT_.out (by kernel_rfl)) (fun _ _ _ h => h) (Or.inl ⟨by rfl, ?_⟩) ?_ ?_
        rotate_left
        · intro w'
          go_simp
          with_reducible rfl
        rotate_left
        · simp only [Act.put, List.setIfInBounds_toArray, List.set_cons_zero, List.set_cons_succ, i64_w, i32_w]
          rfl
        refine take_ (i := 3) (N := some 38) (v := ?_) (a' := ?_) #[true, true, true, true, false, false, false] rfl rfl (take_ofW HT_.out HW_.out (by kernel_rfl)) (fun _ _ _ h => h) (Or.inl ⟨by rfl, ?_⟩) hHeld ?_ ?_
        rotate_left
        · rintro w' s0
          go_simp
          with_reducible rfl
        rotate_left
        · simp only [Act.put, List.setIfInBounds_toArray, List.set_cons_zero, List.set_cons_succ, i64_w, i32_w]
          rfl
        refine pure_ (i := 4) (N := some 39) (v := ?_) (a' := ?_) #[true, true, true, true, true, false, false] rfl rfl (any_of HT_.out (by kernel_rfl)) (fun _ _ _ h => h) (Or.inl ⟨by rfl, ?_⟩) ?_ ?_
        rotate_left
        · intro w'
          go_simp
          with_reducible rfl
        rotate_left
        · simp only [Act.put, List.setIfInBounds_toArray, List.set_cons_zero, List.set_cons_succ, i64_w, i32_w]
          rfl
        refine one_ (i := 5) (N := some 40) #[true, true, true, true, true, true, false] rfl rfl (one_of HT_.out (by kernel_rfl)) (by decide) (fun K hK => ?_)
        refine Kd.R_make_step (Kd.int .u8) (w0 := wr.drew) wr.drew.heap.size 5 (by rfl) (N := 40) rfl 25 _ _ rfl 32 (by rfl) (by rfl) Tryd.underlying25 (.int .u8 0) 1 info5 rfl (by decide) (by omega) 0 (ok := fun _ => True) (okp := fun _ => True) rfl (fun _ hk => hk) trivial (by omega) (by omega) (Below.refl _ _) (Nat.le_refl _) ?_
        intro v5 w5 ho hb hg_ hnew_
        have HO5 := Aside0.mk ho
        have HB5 := Aside0.mk (below_step (below_drew1 (Below.refl _ wr)) hb)
        clear ho hb hg_ hnew_
        refine hK.out _ _ (HS.out _ HB5.out) (fun hHeld => ?_)
        clear hK K
        refine norm_ (a' := ?_) ?_ ?_
        rotate_left
        · show Act.put _ (some 40) _ = _
          simp only [Act.put, List.setIfInBounds_toArray, List.set_cons_zero, List.set_cons_succ, i64_w, i32_w]
          rfl
        refine one_ (i := 6) (N := none) #[true, true, true, true, true, true, true] rfl rfl (one_of HT_.out (by kernel_rfl)) (by decide) (fun K hK => ?_)
        refine store_one (n := n) (by rfl) _ _ _ rfl rfl (by rfl) i v5 (by rfl) (by rfl) HI.out HN4.out (HX.out.below HB5.out).map ?_
        intro w6 hm6 hg6
        have HM6 := Aside0.mk hm6
        have HG6 := Aside0.mk hg6
        clear hm6 hg6
        refine hK.out _ _ (HS6.out _ _ HB5.out HG6.out) (fun hHeld => ?_)
        clear hK K
        refine norm_ (a' := ?_) ?_ ?_
        rotate_left
        · show Act.put _ (none) _ = _
          simp only [Act.put, List.setIfInBounds_toArray, List.set_cons_zero, List.set_cons_succ, i64_w, i32_w]
          rfl
        refine done_ (done_of HT_.out (by kernel_rfl)) ?_
        have hX6 : ∃ q bl', Vx w0.heap.size w6 g mb (putV V i v5) bl' (n + 1) (putM m i zeros32) ∧ bl' i = q ∧ Kd.R (Kd.int .u8) 5 w6 w0.heap.size (fun j => j = q) v5 zeros32 := by
          have hR := HO5.out
          have e32 : List.replicate (Int.toNat 32) (0 : Int) = zeros32 := rfl
          rw [e32] at hR
          obtain ⟨k, hk⟩ : ∃ k, v5.ownBlock = some k := by
            obtain ⟨_, inner, ho, _⟩ := hR
            rcases ho.2 with ⟨_, h2⟩ | ⟨q, cap, cur, rfl, _⟩
            · cases h2
            · exact ⟨q, rfl⟩
          have hR2 : Kd.R (Kd.int .u8) 5 w5 w0.heap.size (fun q => q = k) v5 zeros32 := by
            obtain ⟨h0, inner, ho, hr⟩ := hR
            exact ⟨fun q hq => by rw [hk] at hq; exact (Option.some.inj hq).symm, inner, own_weaken ho HB.out.size, hr.imp_ (fun _ _ hp => hp)⟩
          have hkn : wr.heap.size ≤ k := by
            obtain ⟨_, inner, ho, _⟩ := hR
            exact own_base ho k hk
          have hX7 := (HX.out.below HB5.out).put HI.out hR2 zeros32_len (fun q hq => Nat.ne_of_lt (Nat.lt_of_lt_of_le (HX.out.blk hq).2.1 hkn)) HM6.out HG6.out
          refine ⟨k, _, hX7, by simp, ?_⟩
          exact Kd.R_grown hR2 HG6.out (fun q hq e => by
            subst hq
            obtain ⟨_, _, _, _, cells, h1⟩ := R32_block hR2 zeros32_len
            obtain ⟨es, c_, h2⟩ := (HX.out.below HB5.out).map.obj
            rw [Option.some.inj e, h2] at h1
            cases h1)
        obtain ⟨q, bl6, hX6, hbl6, hR6⟩ := hX6
        have HB6 : Aside0 (Below w0.heap.size w0 w6) := ⟨below_weaken (below_step HB.out HB5.out) (Nat.le_refl _) (Below.grown (Below.refl _ _) HG6.out (below_step HB.out HB5.out).size (fun k hk => by injection hk with hk; subst hk; exact HX.out.low))⟩
        have HBX6 : Aside0 (w6.heap[g]? = some (.cells #[.int .i64 S, .map (some mb)] 73 (0, 0))) := ⟨by
          have b1 := (HB5.out.block g (blk_lt HBXw.out)).trans HBXw.out
          exact (HG6.out.block g (blk_lt b1) (fun e => HNE.out (by injection e with e; exact e.symm))).trans b1⟩
        have HX6 := Aside0.mk hX6
        have HXB : Aside0 (putM m i (stepB m o dl) = putM (putM m i zeros32) i (zeros32.take a ++ dl.take N ++ zeros32.drop (a + N))) := ⟨by rw [putM_putM, HSB.out, HMI.out]; rfl⟩
        have hb6 : (putM m i zeros32) i = some zeros32 := by unfold putM; rw [if_pos rfl]
        have hv6 : putV V i v5 i = some v5 := by unfold putV; rw [if_pos rfl]
        clear hX6 HS HS6 HG6 HM6 HO5 HB5 HX HBXw HB
        obtain ⟨cap, hv5, hcap⟩ : ∃ cap, v5 = .slice (some ⟨q, 0, none⟩) 32 cap ∧ 32 ≤ cap := by
          obtain ⟨_, _, _, ⟨c_, h1, h2⟩, _⟩ := R32_block hR6 zeros32_len
          exact ⟨c_, h1, h2⟩
        subst hv5
        have HN6 := Aside0.mk HOB4.out
        generalize putV V i (.slice (some ⟨q, 0, none⟩) 32 cap) = V6 at *
        generalize hm6 : putM m i zeros32 = m6 at *
        clear hm6
        have hb32 : zeros32.length = 32 := zeros32_len
        generalize zeros32 = b6 at *
        generalize n + 1 = n6 at *
        obtain ⟨w7, hcp, hR7, hg7⟩ := copy_at (o := a) hR6 (by rw [hb32]; exact HA.out) (Kd.C_below HC2.out HB6.out) (Nat.pos_of_ne_zero HL0.out)
        rw [hb32, ← HN.out] at hcp hR7
        have kc1 : ∀ (W : World), (Instr.slice 25 (.slice (some ⟨q, 0, none⟩) 32 cap) (some (.int .i64 (a : Int))) none none).run Tryd.prog W = .ok (.slice (some ⟨q, a, none⟩) (32 - a) (cap - a)) W := fun W => by
          have h_ := kc q cap W
          rwa [if_neg (by have h1_ := HA.out; omega)] at h_
        have hlk6 := HX6.out.map.look HI.out
        rw [hv6] at hlk6
        have hlk7 : (Instr.lookup 71 (.map (some mb)) (.int .i64 (i : Int)) false).run Tryd.prog w6 = .ok (.slice (some ⟨q, 0, none⟩) 32 cap) w6 := hlk6
        have hgc6 : w6.cell? ⟨g, 1, none⟩ = some (.map (some mb)) := (blk_cell HBX6.out 1).trans rfl
        have hq1 := HQ1.out
        have HX7 : Aside0 (Vx w0.heap.size w7 g mb V6 bl6 n6 (putM m i (stepB m o dl))) := ⟨by
          rw [HXB.out]
          refine HX6.out.turn hb6 hv6 (by rw [hbl6]; exact hR7) ?_ (by rw [hbl6]; exact hg7)
          have h1_ := HA.out
          have h2_ := HN1.out
          have h3_ := HN2.out
          simp only [List.length_append, List.length_take, List.length_drop, hb32]
          omega⟩
        have HQB : Aside0 (w0.heap.size ≤ q ∧ q ≠ g) := ⟨by
          obtain ⟨h1, _, _, _, cells, h2⟩ := R32_block hR6 hb32
          refine ⟨h1, fun e => ?_⟩
          have h3 := HBX6.out
          rw [← e, h2] at h3
          injection h3 with h3
          injection h3 with _ h3
          exact absurd h3 (by decide)⟩
        have HBX7 : Aside0 (w7.heap[g]? = some (.cells #[.int .i64 S, .map (some mb)] 73 (0, 0))) := ⟨(hg7.block g (blk_lt HBX6.out) (fun e => HQB.out.2 (Option.some.inj e).symm)).trans HBX6.out⟩
        have HB7 : Aside0 (Below w0.heap.size w0 w7) := ⟨Below.grown HB6.out hg7 HB6.out.size (fun k hk => by injection hk with hk; subst hk; exact HQB.out.1)⟩
        clear hR6 hR7 hg7 hlk6 hb6 hv6 hbl6 hb32 hcap HX6 HBX6 HB6 HXB kc HC2 HSB HQB
        go_wp2
        refine ⟨⟨o + N, k', dl.drop N, A3, c2 - N, V6, bl6, n6, _, by rw [HON.out], by rw [HLD.out], ⟨?_⟩, HCD, ⟨HR3.out, HK3.out⟩, HX7, HBX7, HB7, ⟨HOB3.out, HN6.out⟩⟩, ?_⟩
        · rw [HLD.out]
          exact Nat.sub_le_sub_right HC2L.out N
        · exact Nat.sub_lt (Nat.pos_of_ne_zero HL0.out) HN3.out

      | some b =>
        obtain ⟨v5, hv6, hR6, hb32, _⟩ := HX.out.yes i b hmi
        obtain ⟨cap, hv5, hcap⟩ : ∃ (cap : Nat), v5 = .slice (some ⟨bl i, 0, none⟩) 32 cap ∧ 32 ≤ cap := by
          obtain ⟨_, _, _, ⟨c_, h1, h2⟩, _⟩ := R32_block hR6 hb32
          exact ⟨c_, h1, h2⟩
        subst hv5
        obtain ⟨q, hbl6⟩ : ∃ q, bl i = q := ⟨_, rfl⟩
        rw [hbl6] at hv6 hR6
        have hvi : (V i).getD (.slice none 0 0) = .slice (some ⟨q, 0, none⟩) 32 cap := by rw [hv6]; rfl
        have he : ∀ W : World, (binOp .eql 25 (.slice (some ⟨q, 0, none⟩) 32 cap) (.slice none 0 0)).run Tryd.prog W = .ok (.bool false) W := fun W => Lib.run_eql_slice_nil W 25 5 _ _ _ 0 0 Tryd.underlying25
        have hlk := HX.out.map.look HI.out
        rw [hvi] at hlk
        have HXB : Aside0 (putM m i (stepB m o dl) = putM m i (b.take a ++ dl.take N ++ b.drop (a + N))) := ⟨by rw [HSB.out, hmi]; rfl⟩
        have HN6 : Aside0 (n + (dl.drop N).length ≤ NN) := ⟨by have h1_ := HOB4.out; omega⟩
        have HB6 := HB
        have HBX6 := HBXw
        have HX6 := HX
        have hb6 := hmi
        clear HB HBXw HX hmi hvi hlk
        generalize V = V6 at *
        generalize bl = bl6 at *
        generalize n = n6 at *
        generalize wr = w6 at *
        rename_i b6_
        obtain ⟨w7, hcp, hR7, hg7⟩ := copy_at (o := a) hR6 (by rw [hb32]; exact HA.out) (Kd.C_below HC2.out HB6.out) (Nat.pos_of_ne_zero HL0.out)
        rw [hb32, ← HN.out] at hcp hR7
        have kc1 : ∀ (W : World), (Instr.slice 25 (.slice (some ⟨q, 0, none⟩) 32 cap) (some (.int .i64 (a : Int))) none none).run Tryd.prog W = .ok (.slice (some ⟨q, a, none⟩) (32 - a) (cap - a)) W := fun W => by
          have h_ := kc q cap W
          rwa [if_neg (by have h1_ := HA.out; omega)] at h_
        have hlk6 := HX6.out.map.look HI.out
        rw [hv6] at hlk6
        have hlk7 : (Instr.lookup 71 (.map (some mb)) (.int .i64 (i : Int)) false).run Tryd.prog w6 = .ok (.slice (some ⟨q, 0, none⟩) 32 cap) w6 := hlk6
        have hgc6 : w6.cell? ⟨g, 1, none⟩ = some (.map (some mb)) := (blk_cell HBX6.out 1).trans rfl
        have hq1 := HQ1.out
        have HX7 : Aside0 (Vx w0.heap.size w7 g mb V6 bl6 n6 (putM m i (stepB m o dl))) := ⟨by
          rw [HXB.out]
          refine HX6.out.turn hb6 hv6 (by rw [hbl6]; exact hR7) ?_ (by rw [hbl6]; exact hg7)
          have h1_ := HA.out
          have h2_ := HN1.out
          have h3_ := HN2.out
          simp only [List.length_append, List.length_take, List.length_drop, hb32]
          omega⟩
        have HQB : Aside0 (w0.heap.size ≤ q ∧ q ≠ g) := ⟨by
          obtain ⟨h1, _, _, _, cells, h2⟩ := R32_block hR6 hb32
          refine ⟨h1, fun e => ?_⟩
          have h3 := HBX6.out
          rw [← e, h2] at h3
          injection h3 with h3
          injection h3 with _ h3
          exact absurd h3 (by decide)⟩
        have HBX7 : Aside0 (w7.heap[g]? = some (.cells #[.int .i64 S, .map (some mb)] 73 (0, 0))) := ⟨(hg7.block g (blk_lt HBX6.out) (fun e => HQB.out.2 (Option.some.inj e).symm)).trans HBX6.out⟩
        have HB7 : Aside0 (Below w0.heap.size w0 w7) := ⟨Below.grown HB6.out hg7 HB6.out.size (fun k hk => by injection hk with hk; subst hk; exact HQB.out.1)⟩
        clear hR6 hR7 hg7 hlk6 hb6 hv6 hbl6 hb32 hcap HX6 HBX6 HB6 HXB kc HC2 HSB HQB
        go_wp2
        refine ⟨⟨o + N, k', dl.drop N, A3, c2 - N, V6, bl6, n6, _, by rw [HON.out], by rw [HLD.out], ⟨?_⟩, HCD, ⟨HR3.out, HK3.out⟩, HX7, HBX7, HB7, ⟨HOB3.out, HN6.out⟩⟩, ?_⟩
        · rw [HLD.out]
          exact Nat.sub_le_sub_right HC2L.out N
        · exact Nat.sub_lt (Nat.pos_of_ne_zero HL0.out) HN3.out
theorem Rg.obj {W : World} {mb r n : Nat} {V : Nat → Option Value} {left : Nat → Bool} {cnt : Nat} (h : Rg W mb r n V left cnt) : ∃ s e c, W.heap[r]? = some (.mapIter (some mb) s e c) := by
  obtain ⟨D, lf, ⟨es, clock, since, seen, c0, a1, a2, a3, a4, a5, a6⟩, h2⟩ := h
  exact ⟨since, seen, c0, a5⟩
theorem Rg.ne_cells {W : World} {mb r n : Nat} {V : Nat → Option Value} {left : Nat → Bool} {cnt : Nat} (h : Rg W mb r n V left cnt) {k : Nat} {cells : Array Value} {t : TypeId} {f : Nat × Nat} (hk : W.heap[k]? = some (.cells cells t f)) : k ≠ r := by
  intro e
  obtain ⟨s, e_, c, h1⟩ := h.obj
  rw [← e, hk] at h1
  cases h1
theorem Rg.ne_map {W : World} {mb r n : Nat} {V : Nat → Option Value} {left : Nat → Bool} {cnt : Nat} (h : Rg W mb r n V left cnt) : mb ≠ r := by
  intro e
  obtain ⟨s, e_, c, h1⟩ := h.obj
  obtain ⟨es, c2, h2⟩ := h.map.obj
  rw [← e, h2] at h1
  cases h1
/-- The map of a view that is ranged over: its rows stay while the iterator steps. -/
theorem Vx.stepped {base : Nat} {W W' : World} {g mb r n' : Nat} {V : Nat → Option Value} {bl : Nat → Nat} {n : Nat} {m : VM} {left : Nat → Bool} {cnt : Nat} (h : Vx base W g mb V bl n m) (hr : Rg W mb r n' V left cnt) (hg : W.grownBy W' (some r)) : Vx base W' g mb V bl n m :=
  h.move (hg.block mb h.map.lt (fun e => hr.ne_map (Option.some.inj e))) (fun i hi => by
    obtain ⟨_, h2, cells, h3⟩ := h.blk hi
    exact hg.block _ h2 (fun e => hr.ne_cells h3 (Option.some.inj e)))
/-- What a cut leaves of block i. -/
def cutL (size : Int) (i : Nat) : Nat := (min (max (size - 32 * (i : Int)) 0) 32).toNat
def cutB (k : Nat) (b : List Int) : List Int := b.take k ++ List.replicate (32 - k) 0
def cutM (m : VM) (size : Int) : VM := fun i => (m i).map (cutB (cutL size i))
/-- .. of those that are no more to come. -/
def cutS (m : VM) (size : Int) (left : Nat → Bool) : VM := fun i => if left i then m i else (m i).map (cutB (cutL size i))
theorem cutL_le (size : Int) (i : Nat) : cutL size i ≤ 32 := by
  unfold cutL
  omega
theorem cutB_len {k : Nat} {b : List Int} (hk : k ≤ 32) (hb : b.length = 32) : (cutB k b).length = 32 := by unfold cutB; simp; omega
theorem cutS_step {m : VM} {size : Int} {left : Nat → Bool} {i : Nat} {b : List Int} (hm : m i = some b) : putM (cutS m size left) i (cutB (cutL size i) b) = cutS m size (fun j => left j && !(j == i)) := by
  funext j
  unfold putM cutS
  by_cases hj : j = i
  · subst hj
    simp [hm]
  · rw [if_neg hj]
    simp [hj]
theorem cut_arith {size : Int} {i : Nat} (hi : i < 76) (hs : 0 ≤ size ∧ size ≤ 2432) : ∃ Y X : Int, wrap64 (32 * (i : Int)) = 32 * (i : Int) ∧ wrap64 (size - 32 * (i : Int)) = Y ∧ (if Y < 0 then 0 else Y) = X ∧ (if (32 : Int) < X then 32 else X) = ((cutL size i : Nat) : Int) := by
  refine ⟨size - 32 * (i : Int), max (size - 32 * (i : Int)) 0, ?_, ?_, ?_, ?_⟩
  · unfold wrap64; omega
  · unfold wrap64; omega
  · split <;> omega
  · unfold cutL
    split <;> omega
set_option maxHeartbeats 8000000 in
set_option maxRecDepth 100000 in
theorem cut_calls (w0 : World) (g n : Nat) (sz : Int) (m : VM) (size : Int) (w : World) (hB : Below w0.heap.size w0 w) (hV : Vw w0.heap.size w g sz n m) (hs : 0 ≤ size ∧ size ≤ 2432) :
    Calls Tryd.prog 29 #[.pointer (some ⟨g, 0, none⟩), .int .i64 size] w fun e w' => e = .returned (.tuple #[]) ∧ Vw w0.heap.size w' g size n (cutM m size) ∧ Below w0.heap.size w0 w' := by
  obtain ⟨mb, V, bl, hg, hbx, hX⟩ := hV.parts
  have HB0 := Aside0.mk hB
  have HX0 := Aside0.mk hX
  have HBX := Aside0.mk hbx
  have HG := Aside0.mk hg
  have HS := Aside0.mk hs
  have hgc0 : w.cell? ⟨g, 0, none⟩ = some (.int .i64 sz) := (blk_cell hbx 0).trans rfl
  have hgf0 := blk_frozen hbx 0
  obtain ⟨W1, hW1⟩ : ∃ W, W = w.setCell ⟨g, 0, none⟩ (.int .i64 size) := ⟨_, rfl⟩
  have HB1 : Aside0 (Below w0.heap.size w0 W1) := ⟨by rw [hW1]; exact below_set hB hg⟩
  have HBX1 : Aside0 (W1.heap[g]? = some (.cells #[.int .i64 size, .map (some mb)] 73 (0, 0))) := ⟨by rw [hW1]; exact blk_put hbx 0 _ rfl⟩
  have HX1 : Aside0 (Vx w0.heap.size W1 g mb V bl n m) := ⟨by
    rw [hW1]
    refine hX.move (Below.heap_setCell _ _ _ _ ?_) (fun j hj => Below.heap_setCell _ _ _ _ ?_)
    · intro e
      obtain ⟨es, c_, h_⟩ := hX.map.obj
      rw [show mb = g from e, hbx] at h_
      cases h_
    · intro e
      obtain ⟨_, _, cells, h_⟩ := hX.blk hj
      rw [show bl j = g from e, hbx] at h_
      injection h_ with h_
      injection h_ with _ h_
      exact absurd h_ (by decide)⟩
  obtain ⟨W2, hrg, ⟨cnt0, hR0⟩, hgr, hsz⟩ := HX1.out.map.range
  obtain ⟨r, hr⟩ : ∃ r, r = W1.heap.size := ⟨_, rfl⟩
  rw [← hr] at hrg hR0
  have HR0 := Aside0.mk hR0
  have hb2 : Below W1.heap.size W1 W2 := Below.grown (Below.refl _ _) hgr (Nat.le_refl _) (fun k hk => by cases hk)
  have HB2 := Aside0.mk (below_step HB1.out hb2)
  have HBX2 := Aside0.mk ((hb2.block g (blk_lt HBX1.out)).trans HBX1.out)
  have HX2 := Aside0.mk (HX1.out.below hb2)
  have HRB : Aside0 (w0.heap.size ≤ r) := ⟨by rw [hr]; exact HB1.out.size⟩
  have hgc1 : W1.cell? ⟨g, 1, none⟩ = some (.map (some mb)) := (blk_cell HBX1.out 1).trans rfl
  rw [hW1] at hgc1 hrg
  clear hW1 HB1 HBX1 HX1 hgr hsz hb2 hR0 hr hB hV hX hbx hg HX0 HB0 HBX hs
  go_enter Tryd.func29, Tryd.ntmps29
  go_wp2
  go_loopw [4] (fun v4 W => ∃ (left : Nat → Bool) (cnt : Nat), Aside0 (Rg W mb r n V left cnt) ∧ Aside0 (Vx w0.heap.size W g mb V bl n (cutS m size left)) ∧ Aside0 (∀ i, left i = true → m i ≠ none) ∧ Aside0 (W.heap[g]? = some (.cells #[.int .i64 size, .map (some mb)] 73 (0, 0))) ∧ Aside0 (Below w0.heap.size w0 W)) (fun _ W => W.rangeLeft mb r)
  case atStart =>
    have hno : ∀ i, (V i).isSome = true → m i ≠ none := fun i hi hm => by rw [HX2.out.no i hm] at hi; cases hi
    refine ⟨_, cnt0, HR0, ⟨?_⟩, ⟨hno⟩, HBX2, HB2⟩
    have e1 : cutS m size (fun i => (V i).isSome) = m := by
      funext i
      unfold cutS
      cases hm : m i with
      | none => simp
      | some b =>
        obtain ⟨v, hv, _⟩ := HX2.out.yes i b hm
        simp [hv]
    rw [e1]
    exact HX2.out
  case round =>
    obtain ⟨left, cnt, HRG, HX, HLN, HBXw, HB⟩ := hrel
    clear HR0 HB2 HBX2 HX2 hgc0 hgf0 hgc1 hrg
    rcases HRG.out.next 0 with ⟨hl, hrun⟩ | ⟨i, v, w2, cnt2, hi, hli, hVi, hrun, hrg2, hlt, hgr, hsz, hen⟩
    · go_wp2
      go_end0
      refine ⟨rfl, ?_, HB.out⟩
      have e1 : cutS m size left = cutM m size := by
        funext i
        unfold cutS cutM
        cases hc : left i with
        | false => rfl
        | true =>
          have h1 := HLN.out i hc
          cases hm : m i with
          | none => exact absurd hm h1
          | some b =>
            obtain ⟨_, _, _, _, h5⟩ := HX.out.yes i b (by unfold cutS; rw [hc]; exact hm)
            rw [hl i h5] at hc
            cases hc
      rw [← e1]
      exact Vw.of HG.out HBXw.out HX.out
    · have hmi : m i ≠ none := HLN.out i hli
      obtain ⟨b, hb⟩ : ∃ b, m i = some b := by
        cases hm : m i with
        | none => exact absurd hm hmi
        | some b => exact ⟨b, rfl⟩
      have hcb : cutS m size left i = some b := by unfold cutS; rw [hli]; exact hb
      obtain ⟨v_, hv, hR, hb32, _⟩ := HX.out.yes i b hcb
      obtain rfl : v_ = v := by rw [hVi] at hv; exact (Option.some.inj hv).symm
      obtain ⟨hq0, hq1, _, ⟨cap, hv5, hcap⟩, cells, hqc⟩ := R32_block hR hb32
      subst hv5
      obtain ⟨q, hblq⟩ : ∃ q, q = bl i := ⟨_, rfl⟩
      rw [← hblq] at hR hq0 hq1 hqc hVi hv hrun hen
      have hX2 := HX.out.stepped HRG.out hgr
      have hb2 : Below w0.heap.size w0 w2 := Below.grown HB.out hgr HB.out.size (fun k hk => by injection hk with hk; subst hk; exact HRB.out)
      have hbx2 : w2.heap[g]? = some (.cells #[.int .i64 size, .map (some mb)] 73 (0, 0)) := (hgr.block g (blk_lt HBXw.out) (fun e => HRG.out.ne_cells HBXw.out (Option.some.inj e))).trans HBXw.out
      have hR2 : Kd.R (Kd.int .u8) 5 w2 w0.heap.size (fun k => k = q) (.slice (some ⟨q, 0, none⟩) 32 cap) b := Kd.R_grown hR hgr (fun k hk e => by subst hk; exact HRG.out.ne_cells hqc (Option.some.inj e))
      have hqc2 : w2.heap[q]? = some (.cells cells 5 (0, 0)) := (hgr.block q hq1 (fun e => HRG.out.ne_cells hqc (Option.some.inj e))).trans hqc
      obtain ⟨Y, X, e1, e2, e3, e4⟩ := cut_arith (size := size) hi HS.out
      obtain ⟨k, hk⟩ : ∃ k, k = cutL size i := ⟨_, rfl⟩
      have hk32 : k ≤ 32 := by rw [hk]; exact cutL_le _ _
      rw [← hk] at e4
      obtain ⟨w3, hcl, hR3, hg3⟩ := clear_at (o := k) hR2 (by omega) (by omega)
      rw [hb32] at hcl hR3
      obtain ⟨i0, hi0, hz0, hs0, _⟩ := info_parts info5
      have kd : ∀ W : World, (Instr.slice 25 (.slice (some ⟨q, 0, none⟩) 32 cap) (some (.int .i64 (k : Int))) none none).run Tryd.prog W = .ok (.slice (if cap = k then some ⟨q, 0, none⟩ else some ⟨q, k, none⟩) (32 - k) (cap - k)) W := fun W => by
        have h_ := cut_from (P := Tryd.prog) 25 5 .i64 Tryd.underlying25 hi0 1 hs0 (some ⟨q, 0, none⟩) 32 cap (k : Int) (by omega) (by omega) W
        rw [Int.toNat_natCast, Nat.mul_one] at h_
        rw [h_]
        simp [Addr.add_lit]
      have hA : (if cap = k then some (⟨q, 0, none⟩ : Addr) else some ⟨q, k, none⟩) = some ⟨q, k, none⟩ ∨ k = 32 := by
        split
        · right; omega
        · left; rfl
      generalize (if cap = k then some (⟨q, 0, none⟩ : Addr) else some ⟨q, k, none⟩) = A0 at kd hA
      have hcl2 : ∀ ty dc, (Builtin.clear_ #[25] ty #[.slice A0 (32 - k) dc]).run Tryd.prog w2 = .ok (.tuple #[]) w3 := fun ty dc => hcl ty dc A0 hA
      have HX3 : Aside0 (Vx w0.heap.size w3 g mb V bl n (cutS m size (fun j => left j && !(j == i)))) := ⟨by
        rw [← cutS_step hb]
        refine hX2.turn hcb hv ?_ (cutB_len (cutL_le _ _) hb32) (by rw [← hblq]; exact hg3)
        rw [← hblq, ← hk]
        exact hR3⟩
      have hgq : g ≠ q := fun e => by
        rw [e, hqc2] at hbx2
        injection hbx2 with h3
        injection h3 with _ h3
        exact absurd h3 (by decide)
      have hmq : mb ≠ q := fun e => by
        obtain ⟨es, c_, h1⟩ := hX2.map.obj
        rw [e, hqc2] at h1
        cases h1
      have HBX3 : Aside0 (w3.heap[g]? = some (.cells #[.int .i64 size, .map (some mb)] 73 (0, 0))) := ⟨(hg3.block g (blk_lt hbx2) (fun e => hgq (Option.some.inj e))).trans hbx2⟩
      have HB3 : Aside0 (Below w0.heap.size w0 w3) := ⟨Below.grown hb2 hg3 hb2.size (fun k_ hk_ => by injection hk_ with hk_; subst hk_; exact hq0)⟩
      have HRG3 : Aside0 (Rg w3 mb r n V (fun j => left j && !(j == i)) cnt2) := ⟨hrg2.move (hg3.block mb hrg2.map.lt (fun e => hmq (Option.some.inj e))) (hg3.block r hrg2.lt (fun e => hrg2.ne_cells hqc2 (Option.some.inj e).symm))⟩
      have HLN3 : Aside0 (∀ j, (left j && !(j == i)) = true → m j ≠ none) := ⟨fun j hj => HLN.out j (by rw [Bool.and_eq_true] at hj; exact hj.1)⟩
      have HM : Aside0 (cnt2 < cnt) := ⟨hlt⟩
      have HRG0 : Aside0 (wr.rangeLeft mb r = cnt) := ⟨HRG.out.left_eq⟩
      clear hX2 hb2 hbx2 hR2 hqc2 hR3 hg3 hcl hA hgq hmq hk32 hk hcap hqc hq1 hq0 hR hv hcb hb hmi hVi hli hgr hsz hrg2 hlt hblq hb32 hi0 hz0 hs0 HX HB HBXw HRG HLN
      go_wp2
      refine ⟨⟨_, cnt2, HRG3, HX3, HLN3, HBX3, HB3⟩, ?_⟩
      rw [HRG3.out.left_eq, HRG0.out]
      exact HM.out
/-! #### the blocks of a file, sorted -/
/-- A block in the row: its place, its row's block, that row's room. -/
structure El where
  i : Fin 76
  b : Nat
  c : Nat
instance : Inhabited El := ⟨⟨0, 0, 0⟩⟩
def El.v (x : El) : Value := .slice (some ⟨x.b, 0, none⟩) 32 x.c
def encE (x : El) : List Value := [.int .i64 ((x.i : Nat) : Int), x.v]
theorem encE_len (x : El) : (encE x).length = 2 := rfl
theorem encE_one (x : El) : ∀ v ∈ encE x, v.oneCell' = true := by
  intro v hv
  simp [encE, El.v] at hv
  rcases hv with rfl | rfl <;> rfl
def kE : Kd El where
  sz := 2
  E := []
  K := fun _ x cs => cs = encE x
  M := fun _ _ _ x cs => cs = encE x
  K_len := fun h => by rw [h]; rfl
  K_one := fun h u hu => by rw [h] at hu; exact encE_one _ u hu
  K_below := fun _ h => h
  K_of_M := fun h => h
  M_mono := fun _ h => h
  M_bound := fun h => h
  M_move := fun _ h => h
  M_lower := fun _ h => h
/-- Whether a block is one of the file's. -/
def goodI (m : VM) (i : Nat) : Bool := match m i with | some b => !zeroI b | none => false
/-- The file's blocks, off a view. -/
def fileI (m : VM) : List S39 := ((List.range 76).filter (goodI m)).map fun (i : Nat) => (⟨(i : Int), (m i).getD zeros32⟩ : S39)
theorem inc_eq : ∀ {a b : List Nat}, a.Pairwise (· < ·) → b.Pairwise (· < ·) → (∀ x, x ∈ a ↔ x ∈ b) → a = b
  | [], [], _, _, _ => rfl
  | [], y :: b, _, _, h => by have := (h y).2 (List.mem_cons_self); cases this
  | x :: a, [], _, _, h => by have := (h x).1 (List.mem_cons_self); cases this
  | x :: a, y :: b, ha, hb, h => by
    obtain ⟨a1, a2⟩ := List.pairwise_cons.1 ha
    obtain ⟨b1, b2⟩ := List.pairwise_cons.1 hb
    have e : x = y := by
      have h1 := (h x).1 List.mem_cons_self
      have h2 := (h y).2 List.mem_cons_self
      rcases List.mem_cons.1 h1 with h1 | h1
      · exact h1
      · rcases List.mem_cons.1 h2 with h2 | h2
        · exact h2.symm
        · have := b1 x h1
          have := a1 y h2
          omega
    subst e
    congr 1
    refine inc_eq a2 b2 (fun z => ⟨fun hz => ?_, fun hz => ?_⟩)
    · have hz2 := (h z).1 (List.mem_cons_of_mem _ hz)
      rcases List.mem_cons.1 hz2 with rfl | hz2
      · have := a1 z hz
        omega
      · exact hz2
    · have hz2 := (h z).2 (List.mem_cons_of_mem _ hz)
      rcases List.mem_cons.1 hz2 with rfl | hz2
      · have := b1 z hz
        omega
      · exact hz2
/-- What the row holds while the map is ranged over. -/
structure Fi (V : Nat → Option Value) (m : VM) (left : Nat → Bool) (es : List El) : Prop where
  nodup : (es.map fun x => (x.i : Nat)).Nodup
  mem : ∀ x ∈ es, left x.i = false ∧ V x.i = some x.v ∧ goodI m x.i = true
  all : ∀ i : Fin 76, left i = false → goodI m i = true → ∃ x ∈ es, x.i = i
theorem Fi.len {V : Nat → Option Value} {m : VM} {left : Nat → Bool} {es : List El} (h : Fi V m left es) : es.length ≤ 76 := by
  have h1 : (es.map fun x => (x.i : Nat)) ⊆ List.range 76 := fun i hi => by
    obtain ⟨x, _, rfl⟩ := List.mem_map.1 hi
    exact List.mem_range.2 x.i.isLt
  have h2 := List.Nodup.length_le_of_subset h.nodup h1
  simpa using h2
theorem Fi.none_ (V : Nat → Option Value) (m : VM) (left : Nat → Bool) (h : ∀ i : Fin 76, left i = false → goodI m i = false) : Fi V m left [] :=
  ⟨List.nodup_nil, fun x hx => (by cases hx), fun i h1 h2 => (by rw [h i h1] at h2; cases h2)⟩
/-- A block of zeros came: it is left out. -/
theorem Fi.skip {V : Nat → Option Value} {m : VM} {left : Nat → Bool} {es : List El} (h : Fi V m left es) {j : Nat} (hg : goodI m j = false) (hl : left j = true) : Fi V m (fun k => left k && !(k == j)) es := by
  refine ⟨h.nodup, fun x hx => ?_, fun i h1 h2 => ?_⟩
  · obtain ⟨a, b⟩ := h.mem x hx
    exact ⟨by simp [a], b⟩
  · by_cases he : (i : Nat) = j
    · rw [he, hg] at h2
      cases h2
    · refine h.all i ?_ h2
      simp only [Bool.and_eq_false_iff, Bool.not_eq_false', beq_iff_eq] at h1
      rcases h1 with h1 | h1
      · exact h1
      · exact absurd h1 he
/-- .. another one: it is laid behind. -/
theorem Fi.snoc {V : Nat → Option Value} {m : VM} {left : Nat → Bool} {es : List El} (h : Fi V m left es) {x : El} (hv : V x.i = some x.v) (hg : goodI m x.i = true) (hl : left x.i = true) : Fi V m (fun k => left k && !(k == (x.i : Nat))) (es ++ [x]) := by
  refine ⟨?_, fun y hy => ?_, fun i h1 h2 => ?_⟩
  · rw [List.map_append, List.nodup_append]
    refine ⟨h.nodup, by simp, fun a ha b hb => ?_⟩
    obtain ⟨y, hy, rfl⟩ := List.mem_map.1 ha
    obtain rfl : b = (x.i : Nat) := by simpa using hb
    intro e
    have := (h.mem y hy).1
    rw [e, hl] at this
    cases this
  · rcases List.mem_append.1 hy with hy | hy
    · obtain ⟨a, b⟩ := h.mem y hy
      exact ⟨by simp [a], b⟩
    · obtain rfl := List.mem_singleton.1 hy
      exact ⟨by simp, hv, hg⟩
  · by_cases he : i = x.i
    · exact ⟨x, List.mem_append_right _ (List.mem_singleton.2 rfl), he.symm⟩
    · have hne : ¬ (i : Nat) = (x.i : Nat) := fun h_ => he (Fin.ext h_)
      simp only [Bool.and_eq_false_iff, Bool.not_eq_false', beq_iff_eq] at h1
      rcases h1 with h1 | h1
      · obtain ⟨y, hy, e⟩ := h.all i h1 h2
        exact ⟨y, List.mem_append_left _ hy, e⟩
      · exact absurd h1 hne
theorem Fi.final {V : Nat → Option Value} {m : VM} {left : Nat → Bool} {es es' : List El} (h : Fi V m left es) (hl : ∀ i, i < 76 → left i = false) (hp : es'.Perm es) (hs : es'.Pairwise (fun a b => ¬ (b.i : Nat) < (a.i : Nat))) : (es'.map fun x => (x.i : Nat)) = (List.range 76).filter (goodI m) := by
  have hn : (es'.map fun x => (x.i : Nat)).Nodup := (hp.map _).nodup_iff.2 h.nodup
  refine inc_eq ?_ ?_ (fun i => ?_)
  · have h1 : (es'.map fun x => (x.i : Nat)).Pairwise (fun a b => ¬ b < a) := List.pairwise_map.2 hs
    exact (h1.and hn).imp (fun h_ => by omega)
  · exact List.Pairwise.filter _ List.pairwise_lt_range
  · rw [List.mem_map, List.mem_filter, List.mem_range]
    constructor
    · rintro ⟨x, hx, rfl⟩
      exact ⟨x.i.isLt, (h.mem x (hp.mem_iff.1 hx)).2.2⟩
    · rintro ⟨h1, h2⟩
      obtain ⟨x, hx, e⟩ := h.all ⟨i, h1⟩ (hl i h1) h2
      exact ⟨x, hp.mem_iff.2 hx, by rw [e]⟩
/-- The row of the file's blocks, off the sorted row. -/
theorem fileI_of {m : VM} {ks : List Nat} (h : ks = (List.range 76).filter (goodI m)) : fileI m = ks.map fun (i : Nat) => (⟨(i : Int), (m i).getD zeros32⟩ : S39) := by rw [h]; rfl
theorem uniq_of {es : List El} (hn : (es.map fun x => (x.i : Nat)).Nodup) {j1 j2 : Nat} {x y : El} (h1 : es[j1]? = some x) (h2 : es[j2]? = some y) (h : (x.i : Nat) = (y.i : Nat)) : j1 = j2 := by
  have e1 : (es.map fun x => (x.i : Nat))[j1]? = some (x.i : Nat) := by rw [List.getElem?_map, h1]; rfl
  have e2 : (es.map fun x => (x.i : Nat))[j2]? = some (x.i : Nat) := by rw [List.getElem?_map, h2, h]; rfl
  have hl := (List.getElem?_eq_some_iff.1 e1).1
  exact (List.getElem?_inj hl hn).1 (e1.trans e2.symm)
theorem fileI_row {base : Nat} {W : World} {g mb : Nat} {V : Nat → Option Value} {bl : Nat → Nat} {n : Nat} {m : VM} {es : List El} {v : Value} (hX : Vx base W g mb V bl n m) (hn : (es.map fun x => (x.i : Nat)).Nodup) (hm : ∀ x ∈ es, V x.i = some x.v ∧ goodI m x.i = true) (hR : Kd.R kE 39 W base (fun _ => True) v es) :
    Kd.S k39 39 W base (fun _ => True) v (es.map fun x => (⟨((x.i : Nat) : Int), (m x.i).getD zeros32⟩ : S39)) := by
  have hty : ∀ k, v.ownBlock = some k → ∃ cells, W.heap[k]? = some (.cells cells 39 (0, 0)) := fun k hk => by
    obtain ⟨_, inner, ho, _⟩ := hR
    exact own_typed ho k hk
  have hone : ∀ x ∈ es, ∃ b, m x.i = some b ∧ Kd.R (Kd.int .u8) 5 W base (fun k => k = bl x.i) x.v b ∧ b.length = 32 ∧ m x.i ≠ none := fun x hx => by
    obtain ⟨hv, hg⟩ := hm x hx
    unfold goodI at hg
    cases hb : m x.i with
    | none => rw [hb] at hg; cases hg
    | some b =>
      obtain ⟨u, hu, hRb, hb32, _⟩ := hX.yes x.i b hb
      rw [hv] at hu
      obtain rfl := Option.some.inj hu
      exact ⟨b, rfl, hRb, hb32, by simp⟩
  have hf : ∃ f : Nat → Nat, ∀ (j : Nat) (x : El), es[j]? = some x → f (bl x.i) = j := by
    classical
    refine ⟨fun k => if h : ∃ (j : Nat) (x : El), es[j]? = some x ∧ bl x.i = k then h.choose else 0, fun j x hj => ?_⟩
    have hex : ∃ (j' : Nat) (x' : El), es[j']? = some x' ∧ bl x'.i = bl x.i := ⟨j, x, hj, rfl⟩
    show (if h : ∃ (j' : Nat) (x' : El), es[j']? = some x' ∧ bl x'.i = bl x.i then h.choose else 0) = j
    rw [dif_pos hex]
    obtain ⟨x', h1, h2⟩ := hex.choose_spec
    obtain ⟨_, _, _, _, n1⟩ := hone x' (List.mem_of_getElem? h1)
    obtain ⟨_, _, _, _, n2⟩ := hone x (List.mem_of_getElem? hj)
    exact uniq_of hn h1 hj (hX.inj _ _ n1 n2 h2)
  obtain ⟨f, hf⟩ := hf
  obtain ⟨h0, inner, ho, hr⟩ := hR
  refine ⟨f, h0, inner, by rw [List.length_zipIdx, List.length_map]; exact ho, ⟨by rw [List.length_zipIdx, List.length_map]; exact hr.1, fun j p hj => ?_⟩⟩
  rw [List.getElem?_zipIdx, List.getElem?_map, Nat.zero_add] at hj
  obtain ⟨y, hy, rfl⟩ := Option.map_eq_some_iff.1 hj
  obtain ⟨x, hx, rfl⟩ := Option.map_eq_some_iff.1 hy
  have e1 : (inner.drop (j * 2)).take 2 = encE x := hr.2 j x hx
  have e2 : (inner.drop (j * (Kd.tag f k39).sz)).take (Kd.tag f k39).sz = encE x := e1
  rw [e2]
  obtain ⟨b, hb, hRb, hb32, _⟩ := hone x (List.mem_of_getElem? hx)
  refine ⟨[.int .i64 ((x.i : Nat) : Int)], [x.v], rfl, rfl, x.v, rfl, ?_⟩
  show Kd.R (Kd.int .u8) 5 W base _ x.v ((m x.i).getD zeros32)
  rw [hb]
  refine Kd.R_mono hRb (fun k hk => ⟨⟨trivial, fun e => ?_⟩, ?_⟩)
  · subst hk
    obtain ⟨cells, h1⟩ := hty _ e.symm
    obtain ⟨_, _, _, _, cells2, h2⟩ := R32_block hRb hb32
    rw [h1] at h2
    injection h2 with h2
    injection h2 with _ h2
    exact absurd h2 (by decide)
  · subst hk
    exact hf j x hx
def cfE (x y : El) : Int := ((x.i : Nat) : Int) - ((y.i : Nat) : Int)
theorem wrapE (x y : El) : wrap64 (((x.i : Nat) : Int) - ((y.i : Nat) : Int)) = cfE x y := by
  have h1 := x.i.isLt
  have h2 := y.i.isLt
  unfold cfE wrap64
  omega
theorem ltE (x y : El) : Go.Proofs.ltOf cfE x y = decide ((x.i : Nat) < (y.i : Nat)) := by
  unfold Go.Proofs.ltOf cfE
  by_cases h : (x.i : Nat) < (y.i : Nat)
  · rw [decide_eq_true h, decide_eq_true (by omega)]
  · rw [decide_eq_false h, decide_eq_false (by omega)]
theorem swoE : Go.Sort.SWO (Go.Proofs.ltOf cfE) where
  irrefl x := by rw [ltE]; simp
  trans x y z h1 h2 := by rw [ltE] at *; simp only [decide_eq_true_eq] at *; omega
  ntrans x y z h1 h2 := by rw [ltE] at *; simp only [decide_eq_false_iff_not] at *; omega
set_option maxHeartbeats 1000000 in
theorem cmp_calls (x y : El) (W : World) : Calls Tryd.prog 34 #[.agg (encE x).toArray, .agg (encE y).toArray] W fun e w' => e = .returned (.int .i64 (cfE x y)) ∧ ∃ q os', w' = Go.Sort.grow (W.drewN q) os' := by
  unfold encE El.v
  go_enter Tryd.func34, Tryd.ntmps34
  go_wp2
  go_ret
  refine ⟨by rfl, 0, #[Obj.cells #[.int .i64 ((x.i : Nat) : Int), .slice (some ⟨x.b, 0, none⟩) 32 x.c] 39] ++ #[Obj.cells #[.int .i64 ((y.i : Nat) : Int), .slice (some ⟨y.b, 0, none⟩) 32 y.c] 39], ?_⟩
  rw [Go.Sort.alloc_eq_grow, Go.Sort.alloc_eq_grow, Go.Sort.grow_grow]
  rfl
theorem isAgg39 (w : World) : (isAgg 39).run Tryd.prog w = .ok true w := by kernel_rfl
theorem sizeOf39 (w : World) : (Go.sizeOf 39).run Tryd.prog w = .ok 2 w := by kernel_rfl
theorem cmpLaysE (blk off size : Nat) (w : World) : Go.Proofs.CmpLays Tryd.prog 34 #[] encE 2 cfE blk off size w :=
  fun _ _ _ _ x y => cmp_calls x y _
theorem sort_calls (blk cap : Nat) (d : Array El) (w : World) (hH : Go.Sort.HoldsK encE 2 w blk 0 d) (hblk : blk < w.heap.size) (hsz : d.size < 4611686018427387904) :
    Calls Tryd.prog 33 #[.slice (some ⟨blk, 0, none⟩) d.size cap, .func (.func 34) #[] #[]] w fun e w' => e = .returned (.tuple #[]) ∧ ∃ d' n os, Go.Sort.PermIn 0 d.size d d' ∧ Go.Sort.SortedIn (Go.Proofs.ltOf cfE) 0 d.size d' ∧ w' = Go.Proofs.sortWorldK encE 2 w blk 0 n d' os := by
  have eg : ∀ args w, (callFunc 34 args).run Tryd.prog w = .ok (.enter 34 args) w := enters_of Tryd.func34 (by kernel_rfl) rfl
  exact Go.Proofs.AnyQ.slices_SortFunc Tryd.sortB 2 isAgg39 sizeOf39 encE encE_len encE_one cfE swoE 34 #[] blk 0 cap d w eg (cmpLaysE blk 0 d.size w) hH hblk hsz
theorem none_calls (p : Option Addr) (cap : Nat) (w : World) : Calls Tryd.prog 33 #[.slice p 0 cap, .func (.func 34) #[] #[]] w fun e w' => e = .returned (.tuple #[]) ∧ w' = w :=
  Go.Proofs.AnyF.slices_SortFunc_none Tryd.sortB p cap _ w
theorem toList_get! (d : Array El) (j : Nat) (h : j < d.size) : d.toList[j]? = some d[j]! := by
  rw [Array.getElem?_toList, getElem!_pos d j h, Array.getElem?_eq_getElem h]
/-- The row's cells behind the sort. -/
theorem sorted_row {W : World} {blk n : Nat} {cur : Array Value} {d : Array El} {os : Array Obj} (hh : W.heap[blk]? = some (.cells cur 39 (0, 0))) (hs : d.size * 2 ≤ cur.size) :
    ∃ cur', (Go.Proofs.sortWorldK encE 2 W blk 0 n d os).heap[blk]? = some (.cells cur' 39 (0, 0)) ∧ cur'.size = cur.size ∧ ∀ t, t < d.size * 2 → cur'[t]? = some ((encE d[t / 2]!)[t % 2]!) := by
  have hlt := (Array.getElem?_eq_some_iff.1 hh).1
  refine ⟨Go.Sort.putCells id 0 (Go.Sort.flatK encE 2 d) cur, ?_, ?_, fun t ht => ?_⟩
  · unfold Go.Proofs.sortWorldK Go.Sort.grow Go.Sort.putRowK Go.Sort.putRow Go.Sort.mapBlock Go.Sort.ahead
    simp only
    rw [Array.getElem?_append_left (by simpa using hlt), Array.getElem?_modify, if_pos rfl, hh]
    rfl
  · simp [Go.Sort.putCells]
  · have hf : (Go.Sort.flatK encE 2 d)[t]! = (encE d[t / 2]!)[t % 2]! := Go.Sort.get_flatK encE 2 d t ht
    rw [← hf]
    unfold Go.Sort.putCells
    rw [Array.getElem?_mapIdx, Array.getElem?_eq_getElem (by omega), Option.map_some, if_pos ⟨Nat.zero_le _, by rw [Go.Sort.size_flatK]; omega⟩]
    rfl
theorem sorted_grown {W : World} {blk n : Nat} {d : Array El} {os : Array Obj} : W.grownBy (Go.Proofs.sortWorldK encE 2 W blk 0 n d os) (some blk) := by
  refine ⟨rfl, rfl, rfl, ?_, fun k hk hne => ?_⟩
  · unfold Go.Proofs.sortWorldK Go.Sort.grow Go.Sort.putRowK Go.Sort.putRow Go.Sort.mapBlock Go.Sort.ahead
    simp
  · unfold Go.Proofs.sortWorldK Go.Sort.grow Go.Sort.putRowK Go.Sort.putRow Go.Sort.mapBlock Go.Sort.ahead
    simp only
    rw [Array.getElem?_append_left (by simpa using hk), Array.getElem?_modify, if_neg (fun e => hne (by rw [e]))]
theorem flat_get {l : List El} {inner : List Value} (hr : Reps (fun x cs => cs = encE x) 2 l inner) {j : Nat} {x : El} (hj : l[j]? = some x) : inner[j * 2]? = some (.int .i64 ((x.i : Nat) : Int)) ∧ inner[j * 2 + 1]? = some x.v := by
  have h1 : (inner.drop (j * 2)).take 2 = encE x := hr.2 j x hj
  have h2 : ∀ t, t < 2 → inner[j * 2 + t]? = (encE x)[t]? := fun t ht => by
    rw [← h1, List.getElem?_take, if_pos ht, List.getElem?_drop]
  exact ⟨h2 0 (by decide), h2 1 (by decide)⟩
theorem flat_mk {l : List El} {inner : List Value} (hl : inner.length = l.length * 2) (h : ∀ (j : Nat) (x : El), l[j]? = some x → inner[j * 2]? = some (.int .i64 ((x.i : Nat) : Int)) ∧ inner[j * 2 + 1]? = some x.v) : Reps (fun x cs => cs = encE x) 2 l inner := by
  refine ⟨hl, fun j x hj => ?_⟩
  obtain ⟨h1, h2⟩ := h j x hj
  apply List.ext_getElem?
  intro t
  rw [List.getElem?_take]
  by_cases ht : t < 2
  · rw [if_pos ht, List.getElem?_drop]
    rcases (by omega : t = 0 ∨ t = 1) with rfl | rfl
    · exact h1
    · exact h2
  · rw [if_neg ht]
    symm
    exact List.getElem?_eq_none (by rw [encE_len]; omega)
theorem sort_R {W : World} {base : Nat} {v : Value} {es : List El} (h : Kd.R kE 39 W base (fun _ => True) v es) (hn : es.length ≤ 76) : Calls Tryd.prog 33 #[v, .func (.func 34) #[] #[]] W fun e w' => e = .returned (.tuple #[]) ∧ ∃ es', es'.Perm es ∧ es'.Pairwise (fun a b => ¬ (b.i : Nat) < (a.i : Nat)) ∧ Kd.R kE 39 w' base (fun _ => True) v es' ∧ W.grownBy w' v.ownBlock := by
  obtain ⟨h0, inner, ho, hr⟩ := h
  have hr' : Reps (fun x cs => cs = encE x) 2 es inner := hr
  by_cases hz : es.length = 0
  · have he : es = [] := List.eq_nil_of_length_eq_zero hz
    subst he
    have hsl : ∃ p c, v = .slice p 0 c := by
      rcases ho.2 with ⟨rfl, _⟩ | ⟨q, cap, cur, rfl, _⟩
      · exact ⟨_, _, rfl⟩
      · exact ⟨_, _, rfl⟩
    obtain ⟨p, c, rfl⟩ := hsl
    refine (none_calls p c W).mono ?_
    rintro e w' ⟨rfl, rfl⟩
    exact ⟨rfl, [], List.Perm.refl _, List.Pairwise.nil, ⟨h0, inner, ho, hr⟩, ⟨rfl, rfl, rfl, Nat.le_refl _, fun _ _ _ => rfl⟩⟩
  · rcases ho.2 with ⟨_, h2⟩ | ⟨q, cap, cur, rfl, hq, hh, hc, hm, hs, ht⟩
    · exact absurd h2 hz
    · have hs : cur.size = cap * 2 := hs
      have ht : cur.toList.take (es.length * 2) = inner := ht
      have hlt := (Array.getElem?_eq_some_iff.1 hh).1
      have hsz : es.toArray.size = es.length := by simp
      have hcell : ∀ t, t < es.length * 2 → cur[t]? = inner[t]? := fun t h_ => by
        rw [← ht, List.getElem?_take, if_pos h_, Array.getElem?_toList]
      have hin : ∀ t, t < es.length * 2 → inner[t]? = some ((encE es.toArray[t / 2]!)[t % 2]!) := fun t h_ => by
        have hj : t / 2 < es.length := by omega
        have e1 : es[t / 2]? = some es.toArray[t / 2]! := by
          have := toList_get! es.toArray (t / 2) (by rw [hsz]; exact hj)
          simpa using this
        obtain ⟨a1, a2⟩ := flat_get hr' e1
        rcases (by omega : t % 2 = 0 ∨ t % 2 = 1) with h1 | h1
        · have e2 : t = t / 2 * 2 := by omega
          rw [h1]
          conv => lhs; rw [e2]
          exact a1
        · have e2 : t = t / 2 * 2 + 1 := by omega
          rw [h1]
          conv => lhs; rw [e2]
          exact a2
      have hH : Go.Sort.HoldsK encE 2 W q 0 es.toArray := by
        intro t h_
        rw [Go.Sort.size_flatK, hsz] at h_
        have e1 : (Go.Sort.flatK encE 2 es.toArray)[t]! = (encE es.toArray[t / 2]!)[t % 2]! := Go.Sort.get_flatK encE 2 _ t (by rw [hsz]; exact h_)
        rw [e1, Nat.zero_add]
        refine ⟨?_, ?_⟩
        · rw [blk_cell hh, hcell t h_, hin t h_]
          rfl
        · exact blk_frozen hh t
      have hcall := sort_calls q cap es.toArray W hH hlt (by rw [hsz]; omega)
      rw [hsz] at hcall
      refine hcall.mono ?_
      rintro e w' ⟨rfl, d', n, os, hp, hsd, rfl⟩
      obtain ⟨hp1, _, hp3⟩ := hp
      rw [hsz] at hp1
      have hdl : d'.toList.length = es.length := by rw [Array.length_toList, hp1]
      obtain ⟨cur', c1, c2, c3⟩ := sorted_row (n := n) (os := os) (d := d') hh (by rw [hp1, hs]; omega)
      have hcl : cur'.toList.length = cap * 2 := by rw [Array.length_toList, c2, hs]
      have hperm : d'.toList.Perm es := by
        have e1 : d'.extract 0 es.length = d' := by rw [← hp1]; simp
        have e2 : es.toArray.extract 0 es.length = es.toArray := by rw [← hsz]; simp
        rw [e1, e2] at hp3
        simpa using hp3
      refine ⟨rfl, d'.toList, hperm, ?_, ⟨h0, cur'.toList.take (es.length * 2), ?_, ?_⟩, sorted_grown⟩
      · rw [List.pairwise_iff_getElem]
        intro i j hi hj hij
        have h1 := hsd i j (Nat.zero_le _) hij (by rw [← hdl]; exact hj)
        rw [ltE] at h1
        have e1 : d'[i]! = d'.toList[i] := by rw [getElem!_pos d' i (by rw [hp1, ← hdl]; exact hi)]; simp
        have e2 : d'[j]! = d'.toList[j] := by rw [getElem!_pos d' j (by rw [hp1, ← hdl]; exact hj)]; simp
        rw [e1, e2] at h1
        exact of_decide_eq_false h1
      · rw [hdl]
        refine ⟨?_, .inr ⟨q, cap, cur', rfl, hq, c1, hc, hm, by rw [c2]; exact hs, rfl⟩⟩
        rw [List.length_take, hcl]
        show min (es.length * 2) (cap * 2) = es.length * 2
        omega
      · refine flat_mk ?_ (fun j x hj => ?_)
        · rw [List.length_take, hcl, hdl]
          omega
        · have hjl : j < es.length := by
            have := (List.getElem?_eq_some_iff.1 hj).1
            omega
          have e1 : d'[j]! = x := by
            have := toList_get! d' j (by rw [hp1]; exact hjl)
            rw [hj] at this
            exact (Option.some.inj this).symm
          have hget : ∀ t, t < es.length * 2 → (cur'.toList.take (es.length * 2))[t]? = some ((encE d'[t / 2]!)[t % 2]!) := fun t h_ => by
            rw [List.getElem?_take, if_pos h_, Array.getElem?_toList]
            exact c3 t (by rw [hp1]; exact h_)
          refine ⟨?_, ?_⟩
          · rw [hget (j * 2) (by omega), Nat.mul_div_cancel _ (by decide), Nat.mul_mod_left, e1]
            rfl
          · rw [hget (j * 2 + 1) (by omega), show (j * 2 + 1) / 2 = j from by omega, show (j * 2 + 1) % 2 = 1 from by omega, e1]
            rfl
theorem results_c1 {fn : Func} {p : Tmp} (h : fn.results = #[.cell p 29]) (tmps : Array Value) (w : World) (g : Nat) (t : TypeId) (cs : Array Value) (fr : Nat × Nat)
    (hp : tmps.getD p undef = .pointer (some ⟨g, 0, none⟩)) (hg : w.heap[g]? = some (.cells cs t fr)) (hi : (Tryd.prog.info? 29).map (·.size) = some cs.size) :
    (results fn tmps).run Tryd.prog w = .ok (.agg cs) w := by
  have hp' : tmps[p]?.getD undef = .pointer (some ⟨g, 0, none⟩) := by simpa using hp
  have hl := run_loadVar_row w g t 29 cs fr _ hg Tryd.underlying29 rfl hi
  simp [results, h, hp', asAddr, hl]
theorem zero_at {W : World} {A : Option Addr} {n c : Nat} {l : List Int} (hC : Kd.C (Kd.int .u8) W A n l) (hc : n ≤ c) : Calls Tryd.prog 31 #[.slice A n c] W fun e w' => e = .returned (.bool (zeroI l)) ∧ Below W.heap.size W w' := by
  have h1 : l.length = n := hC.1
  subst h1
  exact file_zero.calls A c l (zeroI l) W hC hc rfl
theorem Vx.set_far {base : Nat} {W : World} {g mb : Nat} {V : Nat → Option Value} {bl : Nat → Nat} {n : Nat} {m : VM} (h : Vx base W g mb V bl n m) {k j : Nat} {cells : Array Value} {t : TypeId} (hk : W.heap[k]? = some (.cells cells t (0, 0))) (ht : t ≠ 5) (u : Value) : Vx base (W.setCell ⟨k, j, none⟩ u) g mb V bl n m := by
  refine h.move (Below.heap_setCell _ _ _ _ ?_) (fun i hi => Below.heap_setCell _ _ _ _ ?_)
  · intro e
    obtain ⟨es, c_, h1⟩ := h.map.obj
    rw [show mb = k from e, hk] at h1
    cases h1
  · intro e
    obtain ⟨_, _, cells2, h1⟩ := h.blk hi
    rw [show bl i = k from e, hk] at h1
    injection h1 with h1
    injection h1 with _ h1
    exact ht h1
theorem Rg.set_far {W : World} {mb r n : Nat} {V : Nat → Option Value} {left : Nat → Bool} {cnt : Nat} (h : Rg W mb r n V left cnt) {k j : Nat} {cells : Array Value} {t : TypeId} (hk : W.heap[k]? = some (.cells cells t (0, 0))) (u : Value) : Rg (W.setCell ⟨k, j, none⟩ u) mb r n V left cnt := by
  refine h.move (Below.heap_setCell _ _ _ _ ?_) (Below.heap_setCell _ _ _ _ ?_)
  · intro e
    obtain ⟨es, c_, h1⟩ := h.map.obj
    rw [show mb = k from e, hk] at h1
    cases h1
  · exact fun e => h.ne_cells hk e.symm
theorem row_ne {W : World} {base : Nat} {v : Value} {es : List El} (h : Kd.R kE 39 W base (fun _ => True) v es) {k : Nat} {o : Obj} (hk : W.heap[k]? = some o) (ho : ∀ cells, o ≠ .cells cells 39 (0, 0)) : some k ≠ v.ownBlock := by
  intro e
  obtain ⟨_, inner, h1, _⟩ := h
  obtain ⟨cells, h2⟩ := own_typed h1 k e.symm
  rw [hk] at h2
  exact ho cells (Option.some.inj h2)
theorem kE_types : ∀ q, q ∈ 39 :: kE.E → q ≠ 29 := by
  intro q hq
  have h_ : q = 39 := by simpa [kE] using hq
  rw [h_]
  decide
theorem Vx.appended {base : Nat} {W W' : World} {g mb : Nat} {V : Nat → Option Value} {bl : Nat → Nat} {n : Nat} {m : VM} {v : Value} {es : List El} (h : Vx base W g mb V bl n m) (hR : Kd.R kE 39 W base (fun _ => True) v es) (hg : W.grownBy W' v.ownBlock) : Vx base W' g mb V bl n m := by
  refine h.move ?_ (fun i hi => ?_)
  · obtain ⟨es_, c_, h1⟩ := h.map.obj
    exact hg.block mb h.map.lt (row_ne hR h1 (fun cells e => by cases e))
  · obtain ⟨_, h2, cells2, h1⟩ := h.blk hi
    exact hg.block _ h2 (row_ne hR h1 (fun cells e => by injection e with _ e; exact absurd e (by decide)))
theorem Rg.appended {base : Nat} {W W' : World} {mb r n : Nat} {V : Nat → Option Value} {left : Nat → Bool} {cnt : Nat} {v : Value} {es : List El} (h : Rg W mb r n V left cnt) (hR : Kd.R kE 39 W base (fun _ => True) v es) (hg : W.grownBy W' v.ownBlock) : Rg W' mb r n V left cnt := by
  obtain ⟨es_, c_, h1⟩ := h.map.obj
  obtain ⟨s_, e_, c2_, h2⟩ := h.obj
  exact h.move (hg.block mb h.map.lt (row_ne hR h1 (fun cells e => by cases e))) (hg.block r h.lt (row_ne hR h2 (fun cells e => by cases e)))
set_option maxHeartbeats 8000000 in
set_option maxRecDepth 100000 in
theorem file_calls (w0 : World) (g n : Nat) (sz : Int) (m : VM) (w : World) (hB : Below w0.heap.size w0 w) (hV : Vw w0.heap.size w g sz n m) :
    Calls Tryd.prog 23 #[.pointer (some ⟨g, 0, none⟩)] w fun e w' => ∃ v, e = .returned (.agg #[.int .i64 sz, v]) ∧ Kd.S k39 39 w' w0.heap.size (fun _ => True) v (fileI m) ∧ Below w0.heap.size w0 w' := by
  obtain ⟨mb, V, bl, hg, hbx, hX⟩ := hV.parts
  have hu29 := Tryd.underlying29
  have hu73 := Tryd.underlying73
  obtain ⟨W1, hW1⟩ : ∃ W, W = w.alloc (.cells #[.int .i64 0, .slice none 0 0] 29) := ⟨_, rfl⟩
  obtain ⟨W2, hW2⟩ : ∃ W, W = W1.alloc (.cells #[.int .i64 sz, .slice none 0 0] 29) := ⟨_, rfl⟩
  have hb1 : Below w.heap.size w W1 := by rw [hW1]; exact below_alloc (Below.refl _ _) _
  have hb2 : Below W1.heap.size W1 W2 := by rw [hW2]; exact below_alloc (Below.refl _ _) _
  have HB2 := Aside0.mk (below_step (below_step hB hb1) hb2)
  have HX2 := Aside0.mk ((hX.below hb1).below hb2)
  have hbx1 := (hb1.block g (blk_lt hbx)).trans hbx
  have hbx2 := (hb2.block g (blk_lt hbx1)).trans hbx1
  obtain ⟨gr, hgr⟩ : ∃ k, k = w.heap.size := ⟨_, rfl⟩
  obtain ⟨gf, hgf⟩ : ∃ k, k = W1.heap.size := ⟨_, rfl⟩
  have hrb1 : W1.heap[gr]? = some (.cells #[.int .i64 0, .slice none 0 0] 29 (0, 0)) := by rw [hW1, hgr]; exact (MapKept.heap_alloc _ _).1
  have hrb2 := (hb2.block gr (blk_lt hrb1)).trans hrb1
  have hfb2 : W2.heap[gf]? = some (.cells #[.int .i64 sz, .slice none 0 0] 29 (0, 0)) := by rw [hW2, hgf]; exact (MapKept.heap_alloc _ _).1
  have hgf1 : gf = w.heap.size + 1 := by rw [hgf, hW1]; simp
  have hgc0 : W1.cell? ⟨g, 0, none⟩ = some (.int .i64 sz) := (blk_cell hbx1 0).trans rfl
  have hgc1 : W2.cell? ⟨g, 1, none⟩ = some (.map (some mb)) := (blk_cell hbx2 1).trans rfl
  obtain ⟨W3, hrg, ⟨cnt0, hR0⟩, hgg, hsz⟩ := HX2.out.map.range
  obtain ⟨r, hr⟩ : ∃ r, r = W2.heap.size := ⟨_, rfl⟩
  rw [← hr] at hrg hR0
  have hb3 : Below W2.heap.size W2 W3 := Below.grown (Below.refl _ _) hgg (Nat.le_refl _) (fun k hk => by cases hk)
  have HR0 := Aside0.mk hR0
  have HB3 := Aside0.mk (below_step HB2.out hb3)
  have HX3 := Aside0.mk (HX2.out.below hb3)
  have HBX3 := Aside0.mk ((hb3.block g (blk_lt hbx2)).trans hbx2)
  have HRB3 := Aside0.mk ((hb3.block gr (blk_lt hrb2)).trans hrb2)
  have HFB3 := Aside0.mk ((hb3.block gf (blk_lt hfb2)).trans hfb2)
  have HLO : Aside0 (w0.heap.size ≤ gr ∧ w0.heap.size ≤ gf ∧ w0.heap.size ≤ r ∧ gr ≠ gf) := ⟨by
    have h1 := hB.size
    have h2 := HB2.out.size
    refine ⟨by rw [hgr]; exact h1, by rw [hgf1]; exact Nat.le_succ_of_le h1, by rw [hr]; exact h2, ?_⟩
    rw [hgr, hgf1]
    exact Nat.ne_of_lt (Nat.lt_succ_self _)⟩
  rw [hW2, hW1] at hgc1 hrg
  rw [hW1] at hgc0
  clear hW2 hW1 HB2 HX2 hb1 hb2 hb3 hbx1 hbx2 hrb1 hrb2 hfb2 hgf hr hgg hsz hR0 hB hX hbx hg hV
  go_enter Tryd.func23, Tryd.ntmps23
  go_wp2
  rw [← hgf1, ← hgr]
  clear hgf1 hgr hgc0 hgc1 hrg
  go_loopw [4] (fun v4 W => ∃ (left : Nat → Bool) (cnt : Nat) (es : List El) (v : Value), Aside0 (Rg W mb r n V left cnt) ∧ Aside0 (Vx w0.heap.size W g mb V bl n m) ∧ Aside0 (Fi V m left es) ∧ Aside0 (Kd.R kE 39 W w0.heap.size (fun _ => True) v es) ∧ Aside0 (W.heap[gf]? = some (.cells #[.int .i64 sz, v] 29 (0, 0))) ∧ Aside0 (W.heap[gr]? = some (.cells #[.int .i64 0, .slice none 0 0] 29 (0, 0))) ∧ Aside0 (Below w0.heap.size w0 W)) (fun _ W => W.rangeLeft mb r)
  case atStart =>
    refine ⟨_, cnt0, [], .slice none 0 0, HR0, HX3, ⟨Fi.none_ V m _ (fun i hi => ?_)⟩, ⟨Kd.R_nil _ _ _ _ _⟩, HFB3, HRB3, HB3⟩
    unfold goodI
    cases hm : m i with
    | none => rfl
    | some b =>
      obtain ⟨v, hv, _⟩ := HX3.out.yes i b hm
      simp [hv] at hi
  case round =>
    obtain ⟨left, cnt, es, v, HRG, HX, HFI, HO, HF, HR, HB⟩ := hrel
    clear HR0 HB3 HBX3 HX3 HRB3 HFB3
    rcases HRG.out.next 0 with ⟨hl, hrun⟩ | ⟨i, u, w2, cnt2, hi, hli, hVi, hrun, hrg2, hlt, hgr, hsz, hen⟩
    · have HFV : Aside0 (∀ es' : List El, es'.Perm es → es'.Pairwise (fun a b => ¬ (b.i : Nat) < (a.i : Nat)) → (es'.map fun x => (x.i : Nat)) = (List.range 76).filter (goodI m)) := ⟨fun es' hp hs => HFI.out.final hl hp hs⟩
      have HMEM := Aside0.mk HFI.out.mem
      have HLEN := Aside0.mk HFI.out.len
      have HND := Aside0.mk HFI.out.nodup
      have hf1 := blk_cell HF.out 1
      clear hl HFI
      go_wp2_with (first
        | (go_at_call 33; go_loud (refine (sort_R HO.out HLEN.out).mono ?_; rintro e w5 ⟨rfl, es', hp, hs, hr5, hg5⟩; obtain ⟨A5, c5, hv5⟩ := Kd.R_slice hr5; have HR5 := Aside0.mk hr5; have HG5 := Aside0.mk hg5; have HP := Aside0.mk hp; have HS := Aside0.mk hs; have HF5 := Aside0.mk ((hg5.block gf (blk_lt HF.out) (row_ne HO.out HF.out (fun cells e => by injection e with _ e; exact absurd e (by decide)))).trans HF.out); have HR6 := Aside0.mk ((hg5.block gr (blk_lt HR.out) (row_ne HO.out HR.out (fun cells e => by injection e with _ e; exact absurd e (by decide)))).trans HR.out); subst hv5; have hf50 := blk_cell HF5.out 0; have hf51 := blk_cell HF5.out 1; have hr60 := blk_cell HR6.out 0; have hr61 := blk_cell HR6.out 1; have hrf0 := blk_frozen HR6.out 0; have hrf1 := blk_frozen HR6.out 1; clear hr5 hg5 hp hs hf1)))
      have HR8 : Aside0 (((w5.setCell ⟨gr, 0, none⟩ (.int .i64 sz)).setCell ⟨gr, 1, none⟩ (.slice A5 es'.length c5)).heap[gr]? = some (.cells #[.int .i64 sz, .slice A5 es'.length c5] 29 (0, 0))) := ⟨by
        refine blk_put (cs := #[.int .i64 sz, .slice none 0 0]) ?_ 1 _ rfl
        refine blk_put (cs := #[.int .i64 0, .slice none 0 0]) ?_ 0 _ rfl
        exact HR6.out⟩
      refine bodyPost_ret (results_c1 rfl _ _ gr 29 #[.int .i64 sz, .slice A5 es'.length c5] (0, 0) rfl HR8.out (by kernel_rfl)) rfl ?_
      have hX5 := HX.out.appended HO.out HG5.out
      have hB5 : Below w0.heap.size w0 w5 := Below.grown HB.out HG5.out HB.out.size (fun k hk => by
        obtain ⟨_, inner, h1, _⟩ := HO.out
        exact own_base h1 k hk)
      have hX8 := (hX5.set_far (j := 0) HR6.out (by decide) (.int .i64 sz)).set_far (j := 1) (blk_put HR6.out 0 (.int .i64 sz) rfl) (by decide) (.slice A5 es'.length c5)
      have hR8 := Kd.R_set (Kd.R_set HR5.out HR6.out kE_types 0 (.int .i64 sz)) (blk_put HR6.out 0 (.int .i64 sz) rfl) kE_types 1 (.slice A5 es'.length c5)
      refine ⟨.slice A5 es'.length c5, rfl, ?_, below_set (below_set hB5 HLO.out.1) HLO.out.1⟩
      rw [fileI_of (HFV.out es' HP.out HS.out), List.map_map]
      exact fileI_row hX8 ((HP.out.map _).nodup_iff.2 HND.out) (fun x hx => (HMEM.out x (HP.out.mem_iff.1 hx)).2) hR8
    · obtain ⟨b, hb⟩ : ∃ b, m i = some b := by
        cases hm : m i with
        | none => rw [HX.out.no i hm] at hVi; cases hVi
        | some b => exact ⟨b, rfl⟩
      obtain ⟨u_, hv, hR, hb32, _⟩ := HX.out.yes i b hb
      obtain rfl : u_ = u := by rw [hVi] at hv; exact (Option.some.inj hv).symm
      obtain ⟨hq0, hq1, _, ⟨cap, hv5, hcap⟩, cells, hqc⟩ := R32_block hR hb32
      subst hv5
      obtain ⟨q, hblq⟩ : ∃ q, q = bl i := ⟨_, rfl⟩
      rw [← hblq] at hR hq0 hq1 hqc hVi hv hrun hen
      have HX2 := Aside0.mk (HX.out.stepped HRG.out hgr)
      have HB2 : Aside0 (Below w0.heap.size w0 w2) := ⟨Below.grown HB.out hgr HB.out.size (fun k hk => by injection hk with hk; subst hk; exact HLO.out.2.2.1)⟩
      have HF2 : Aside0 (w2.heap[gf]? = some (.cells #[.int .i64 sz, v] 29 (0, 0))) := ⟨(hgr.block gf (blk_lt HF.out) (fun e => HRG.out.ne_cells HF.out (Option.some.inj e))).trans HF.out⟩
      have HR2 : Aside0 (w2.heap[gr]? = some (.cells #[.int .i64 0, .slice none 0 0] 29 (0, 0))) := ⟨(hgr.block gr (blk_lt HR.out) (fun e => HRG.out.ne_cells HR.out (Option.some.inj e))).trans HR.out⟩
      have HO2 : Aside0 (Kd.R kE 39 w2 w0.heap.size (fun _ => True) v es) := ⟨by
        refine Kd.R_mono (Kd.R_move (Kd.R_bound HO.out) (fun k hk => ?_)) (fun _ _ => trivial)
        obtain ⟨_, _, h3, _, _, cells2, h4⟩ := hk
        exact hgr.block k h3 (fun e => HRG.out.ne_cells h4 (Option.some.inj e))⟩
      have hR2 : Kd.R (Kd.int .u8) 5 w2 w0.heap.size (fun k => k = q) (.slice (some ⟨q, 0, none⟩) 32 cap) b := Kd.R_grown hR hgr (fun k hk e => by subst hk; exact HRG.out.ne_cells hqc (Option.some.inj e))
      have HRG2 := Aside0.mk hrg2
      have HM : Aside0 (cnt2 < cnt) := ⟨hlt⟩
      have HRG0 : Aside0 (wr.rangeLeft mb r = cnt) := ⟨HRG.out.left_eq⟩
      have HC2 : Aside0 (Kd.C (Kd.int .u8) w2 (some ⟨q, 0, none⟩) 32 b) := ⟨by
        have h_ := Kd.R_reads' hR2
        rw [hb32] at h_
        exact h_.2.2⟩
      have HCAP := Aside0.mk hcap
      have HLI := Aside0.mk hli
      have HVI := Aside0.mk hVi
      have HI := Aside0.mk hi
      clear hR2 hR hv hq0 hq1 hqc hVi hgr hsz hrg2 hlt hblq hb32 hcap hli HX HB HF HR HO HRG
      cases hz : zeroI b with
      | true =>
        have HG := Aside0.mk (show goodI m i = false by unfold goodI; rw [hb]; simp [hz])
        have HZ := Aside0.mk hz
        clear hz hb
        go_wp2_with (first
          | (go_at_call 31; go_loud (refine (zero_at HC2.out HCAP.out).mono ?_; rintro e wz ⟨rfl, hbz⟩; have HBZ := Aside0.mk hbz; clear hbz; rw [HZ.out])))
        refine ⟨⟨_, cnt2, es, v, ⟨HRG2.out.move (HBZ.out.block _ HRG2.out.map.lt) (HBZ.out.block _ HRG2.out.lt)⟩, ⟨HX2.out.below HBZ.out⟩, ⟨HFI.out.skip HG.out HLI.out⟩, ⟨Kd.R_below HO2.out HBZ.out⟩, ⟨(HBZ.out.block _ (blk_lt HF2.out)).trans HF2.out⟩, ⟨(HBZ.out.block _ (blk_lt HR2.out)).trans HR2.out⟩, ⟨below_step HB2.out HBZ.out⟩⟩, ?_⟩
        have h1 := (HRG2.out.move (HBZ.out.block _ HRG2.out.map.lt) (HBZ.out.block _ HRG2.out.lt)).left_eq
        rw [h1, HRG0.out]
        exact HM.out
      | false =>
        have HG := Aside0.mk (show goodI m i = true by unfold goodI; rw [hb]; simp [hz])
        have HZ := Aside0.mk hz
        obtain ⟨x, hx⟩ : ∃ x : El, x = ⟨⟨i, hi⟩, q, cap⟩ := ⟨_, rfl⟩
        have hxi : (x.i : Nat) = i := by rw [hx]
        have hxv : x.v = .slice (some ⟨q, 0, none⟩) 32 cap := by rw [hx]; rfl
        have HP : Aside0 (encE x = [.int .i64 (i : Int), .slice (some ⟨q, 0, none⟩) 32 cap]) := ⟨by unfold encE; rw [hxi, hxv]⟩
        have HFS : Aside0 (Fi V m (fun k => left k && !(k == i)) (es ++ [x])) := ⟨by
          have h_ := HFI.out.snoc (x := x) (by rw [hxi, hxv]; exact HVI.out) (by rw [hxi]; exact HG.out) (by rw [hxi]; exact HLI.out)
          rwa [hxi] at h_⟩
        have HLEN : Aside0 ((es.length + 1) * 32 ≤ 140737488355328) := ⟨by have h_ := HFI.out.len; omega⟩
        clear hz hb hx hxi hxv
        go_wp2_with (first
          | (go_at_call 31; go_loud (refine (zero_at HC2.out HCAP.out).mono ?_; rintro e wz ⟨rfl, hbz⟩; have HBZ := Aside0.mk hbz; have HFZ := Aside0.mk ((hbz.block _ (blk_lt HF2.out)).trans HF2.out); have hfz1 := blk_cell HFZ.out 1; have HOZ := Aside0.mk (Kd.R_below HO2.out hbz); have HBW := Aside0.mk (below_step HB2.out hbz); clear hbz; rw [HZ.out]))
          | ((with_reducible refine gate_builtin (b := .append) (xs := #[.tmp 25, .tmp 29]) rfl ?_); at_builtin; go_loud (refine Kd.R_append kE (w0 := w0) w0.heap.size rfl (.tmp 25) (.tmp 29) 27 39 (.agg #[(.int .i64 0), (.slice none 0 0)]) 32 rfl Tryd.underlying27 info39 rfl (show 0 < 2 by decide) (by decide) v es x [.int .i64 (i : Int), .slice (some ⟨q, 0, none⟩) 32 cap] (fun _ => True) (fun _ => False) rfl rfl HP.out.symm (fun _ h => h.elim) (fun _ _ => trivial) HOZ.out HBW.out HBW.out.size HLEN.out ?_; intro v1 w5 ho5 hb5 hg5 _; obtain ⟨A1, c1, rfl⟩ := Kd.R_slice ho5; rw [List.length_append, List.length_singleton] at ho5; have HO5 := Aside0.mk ho5; have HB5 := Aside0.mk hb5; have HG5 := Aside0.mk hg5; have HF5 := Aside0.mk ((hg5.block gf (blk_lt HFZ.out) (row_ne HOZ.out HFZ.out (fun cells e => by injection e with _ e; exact absurd e (by decide)))).trans HFZ.out); have hf51 := blk_cell HF5.out 1; have hff5 := blk_frozen HF5.out 1; clear ho5 hb5 hg5 hfz1)))
        have HF6 : Aside0 ((w5.setCell ⟨gf, 1, none⟩ (.slice A1 (es.length + 1) c1)).heap[gf]? = some (.cells #[.int .i64 sz, .slice A1 (es.length + 1) c1] 29 (0, 0))) := ⟨blk_put HF5.out 1 _ rfl⟩
        have HRZ := Aside0.mk ((HBZ.out.block _ (blk_lt HR2.out)).trans HR2.out)
        have HR5 := Aside0.mk ((HG5.out.block gr (blk_lt HRZ.out) (row_ne HOZ.out HRZ.out (fun cells e => by injection e with _ e; exact absurd e (by decide)))).trans HRZ.out)
        have HRGZ := Aside0.mk ((HRG2.out.move (HBZ.out.block _ HRG2.out.map.lt) (HBZ.out.block _ HRG2.out.lt)).appended HOZ.out HG5.out)
        have HXZ := Aside0.mk ((HX2.out.below HBZ.out).appended HOZ.out HG5.out)
        refine ⟨⟨_, cnt2, es ++ [x], .slice A1 (es.length + 1) c1, ⟨HRGZ.out.set_far HF5.out _⟩, ⟨HXZ.out.set_far HF5.out (by decide) _⟩, HFS, ⟨Kd.R_set HO5.out HF5.out kE_types 1 _⟩, HF6, ⟨(Below.heap_setCell _ _ _ _ HLO.out.2.2.2).trans HR5.out⟩, ⟨below_set HB5.out HLO.out.2.1⟩⟩, ?_⟩
        have h1 := (HRGZ.out.set_far HF5.out (j := 1) (.slice A1 (es.length + 1) c1)).left_eq
        rw [h1, HRG0.out]
        exact HM.out
/-! #### which files may be -/
/-- Whether a block may not be there: behind one of place 'last', in a file of n blocks. -/
def badB (n sz last : Int) (b : S39) : Bool := decide (b.f0 ≤ last) || (decide (b.f0 ≥ n) || (!decide ((b.f1.length : Int) = 32) || (zeroI b.f1 || (decide (sz - 32 * b.f0 < 32) && !zeroI (b.f1.drop (sz - 32 * b.f0).toNat)))))
def checkL (n sz : Int) : Int → List S39 → Int
  | _, [] => 0
  | last, b :: r => if badB n sz last b = true then 9 else checkL n sz b.f0 r
def checkI (sz : Int) (l : List S39) : Int := if sz < 0 then 9 else if 2432 < sz then 9 else checkL ((sz + 31) / 32) sz (-1) l
theorem blocks_is {sz : Int} : ∃ n m e, blockmap_Blocks.f sz = some (n, m, e) ∧ (e = 0 → 0 ≤ sz ∧ sz ≤ 2432 ∧ n = (sz + 31) / 32) ∧ (e ≠ 0 → sz < 0 ∧ e = 4 ∨ 2432 < sz ∧ e = 107) := by
  unfold blockmap_Blocks.f
  by_cases h1 : sz < 0
  · rw [if_pos h1]
    exact ⟨0, 0, 4, rfl, fun h => by omega, fun _ => .inl ⟨h1, rfl⟩⟩
  · rw [if_neg h1]
    by_cases h2 : sz > 2432
    · rw [if_pos h2]
      exact ⟨0, 0, 107, rfl, fun h => by omega, fun _ => .inr ⟨h2, rfl⟩⟩
    · rw [if_neg h2]
      have hu : ∀ x y : Int, 0 ≤ x → x ≤ 2432 → (y = 32 ∨ y = 8) → blockmap_up.f x y = some ((x + y - 1) / y) := by
        intro x y hx1 hx2 hy
        unfold blockmap_up.f
        rw [if_neg (by omega)]
        have e1 : wrap64 (x + y) = x + y := by unfold wrap64; omega
        rw [e1]
        have e2 : wrap64 (x + y - 1) = x + y - 1 := by unfold wrap64; omega
        rw [e2, Int.tdiv_eq_ediv_of_nonneg (by omega)]
        have e3 : wrap64 ((x + y - 1) / y) = (x + y - 1) / y := by
          rcases hy with rfl | rfl
          · unfold wrap64; omega
          · unfold wrap64; omega
        rw [e3]
      have e0 : (sz + 32 - 1) / 32 = (sz + 31) / 32 := by congr 1; omega
      rw [hu sz 32 (by omega) (by omega) (.inl rfl), e0]
      show ∃ n m e, (if (sz + 31) / 32 > 12 then _ else _) = _ ∧ _
      by_cases h3 : (sz + 31) / 32 > 12
      · rw [if_pos h3]
        have e4 : wrap64 ((sz + 31) / 32 - 12) = (sz + 31) / 32 - 12 := by unfold wrap64; omega
        rw [e4, hu _ 8 (by omega) (by omega) (.inr rfl)]
        exact ⟨_, _, 0, rfl, fun _ => ⟨by omega, by omega, rfl⟩, fun h => absurd rfl h⟩
      · rw [if_neg h3]
        by_cases h4 : (sz + 31) / 32 > 4
        · rw [if_pos h4]
          exact ⟨_, _, 0, rfl, fun _ => ⟨by omega, by omega, rfl⟩, fun h => absurd rfl h⟩
        · rw [if_neg h4]
          exact ⟨_, _, 0, rfl, fun _ => ⟨by omega, by omega, rfl⟩, fun h => absurd rfl h⟩
theorem check_l0 {n sz : Int} {l : List S39} (hsz : 0 ≤ sz ∧ sz ≤ 2432) (hn : n ≤ 76) (hnn : 32 * n ≤ sz + 31) (hmax : l.length ≤ 9223372036854775807) : ∀ (d k j : Nat) (last : Int), l.length - j = d → 2 * d + 1 ≤ k → j ≤ l.length → -1 ≤ last →
    file_Check.l0 k n last l (l.length : Int) (j : Int) sz l = some (checkL n sz last (l.drop j)) := by
  intro d
  induction d with
  | zero =>
    intro k j last hd hk hj hl
    obtain ⟨k, rfl⟩ : ∃ m, k = m + 1 := ⟨k - 1, by omega⟩
    have hjl : j = l.length := by omega
    subst hjl
    simp only [file_Check.l0]
    rw [if_neg (by omega), List.drop_length]
    rfl
  | succ d ih =>
    intro k j last hd hk hj hl
    obtain ⟨k, rfl⟩ : ∃ m, k = m + 1 + 1 := ⟨k - 2, by omega⟩
    have hjl : j < l.length := by omega
    have hrd : rd_T39 l (j : Int) = l[j] := by
      unfold rd_T39
      rw [Int.toNat_natCast, List.getD_eq_getElem?_getD, List.getElem?_eq_getElem hjl]
      rfl
    have hdr : l.drop j = l[j] :: l.drop (j + 1) := List.drop_eq_getElem_cons hjl
    have hw : wrap64 ((j : Int) + 1) = ((j + 1 : Nat) : Int) := by unfold wrap64; omega
    rw [hdr]
    have hj1 : ∀ z : Bool, file_Check.j1 (k + 1) n l (l.length : Int) (j : Int) z sz l l[j].f0 l[j].f1 = if z = true then some 9 else (if (wrap64 (sz - (wrap64 (32 * l[j].f0)))) < 32 then (if 0 ≤ (wrap64 (sz - (wrap64 (32 * l[j].f0)))) then (if (wrap64 (sz - (wrap64 (32 * l[j].f0)))) ≤ (l[j].f1.length : Int) then ((file_zero.f (l[j].f1.drop ((wrap64 (sz - (wrap64 (32 * l[j].f0)))) : Int).toNat)).bind fun t123 => (if t123 = true then (file_Check.l0 k n l[j].f0 l (l.length : Int) (wrap64 ((j : Int) + 1)) sz l) else (some 9))) else (none)) else (none)) else (file_Check.l0 k n l[j].f0 l (l.length : Int) (wrap64 ((j : Int) + 1)) sz l)) := fun z => by
      simp only [file_Check.j1]
    have hl0 : file_Check.l0 (k + 1 + 1) n last l (l.length : Int) (j : Int) sz l = (if l[j].f0 ≤ last then (file_Check.j1 (k + 1) n l (l.length : Int) (j : Int) true sz l l[j].f0 l[j].f1) else (if l[j].f0 ≥ n then (file_Check.j1 (k + 1) n l (l.length : Int) (j : Int) true sz l l[j].f0 l[j].f1) else (if ((l[j].f1).length : Int) = 32 then ((file_zero.f (l[j].f1)).bind fun t121 => (file_Check.j1 (k + 1) n l (l.length : Int) (j : Int) t121 sz l l[j].f0 l[j].f1)) else (file_Check.j1 (k + 1) n l (l.length : Int) (j : Int) true sz l l[j].f0 l[j].f1)))) := by
      simp only [file_Check.l0]
      rw [if_pos (by omega), if_pos (by omega), if_pos (by omega), hrd]
    rw [hl0]
    unfold checkL
    generalize l[j] = b at *
    obtain ⟨b0, b1⟩ := b
    simp only at hj1 ⊢
    unfold badB
    simp only
    by_cases c1 : b0 ≤ last
    · rw [if_pos c1, hj1, if_pos rfl, if_pos (by simp [c1])]
    · rw [if_neg c1]
      by_cases c2 : b0 ≥ n
      · rw [if_pos c2, hj1, if_pos rfl, if_pos (by simp [c2])]
      · rw [if_neg c2]
        by_cases c3 : (b1.length : Int) = 32
        · rw [if_pos c3]
          have e1 : wrap64 (32 * b0) = 32 * b0 := by unfold wrap64; omega
          have e2 : wrap64 (sz - 32 * b0) = sz - 32 * b0 := by unfold wrap64; omega
          show (file_Check.j1 (k + 1) n l (l.length : Int) (j : Int) (zeroI b1) sz l b0 b1) = _
          rw [hj1, e1, e2, hw]
          by_cases c4 : zeroI b1 = true
          · rw [if_pos c4, if_pos (by simp [c4])]
          · rw [if_neg c4]
            have ih1 := ih k (j + 1) b0 (by omega) (by omega) (by omega) (by omega)
            by_cases c5 : sz - 32 * b0 < 32
            · rw [if_pos c5]
              by_cases c6 : 0 ≤ sz - 32 * b0
              · rw [if_pos c6, if_pos (by omega)]
                show (if zeroI (b1.drop (sz - 32 * b0).toNat) = true then _ else _) = _
                by_cases c7 : zeroI (b1.drop (sz - 32 * b0).toNat) = true
                · rw [if_pos c7, ih1, if_neg (by simp [c1, c2, c3, c4, c5, c7])]
                · rw [if_neg c7, if_pos (by simp [c5, c7])]
              · exfalso; omega
            · rw [if_neg c5, ih1, if_neg (by simp [c1, c2, c3, c4, c5])]
        · rw [if_neg c3, hj1, if_pos rfl, if_pos (by simp [c3])]
theorem check_ev (sz : Int) (l : List S39) (hmax : l.length ≤ 9223372036854775807) : ∀ k, 2 * l.length + 1 ≤ k → file_Check.f k sz l = some (checkI sz l) := by
  intro k hk
  unfold file_Check.f
  obtain ⟨n, m, e, h1, h2, h3⟩ := blocks_is (sz := sz)
  rw [h1]
  show (if e = 0 then file_Check.l0 k n (-1) l (l.length : Int) 0 sz l else some 9) = _
  unfold checkI
  by_cases he : e = 0
  · obtain ⟨a, b, c⟩ := h2 he
    rw [if_pos he, if_neg (by omega), if_neg (by omega), ← c]
    exact check_l0 (n := n) ⟨a, b⟩ (by omega) (by omega) hmax l.length k 0 (-1) (by omega) hk (Nat.zero_le _) (by omega)
  · rw [if_neg he]
    rcases h3 he with ⟨a, _⟩ | ⟨a, _⟩
    · rw [if_pos a]
    · by_cases h0 : sz < 0
      · rw [if_pos h0]
      · rw [if_neg h0, if_pos a]
theorem check_up {k k' : Nat} {sz : Int} {l : List S39} {r : Int} (hk : k ≤ k') (h : file_Check.f k sz l = some r) : file_Check.f k' sz l = some r := by
  induction hk with
  | refl => exact h
  | step _ ih => exact file_Check.mono _ _ _ _ ih
theorem check_det {k : Nat} {sz : Int} {l : List S39} {r : Int} (hmax : l.length ≤ 9223372036854775807) (h : file_Check.f k sz l = some r) : r = checkI sz l := by
  have h1 := check_up (Nat.le_max_left k (2 * l.length + 1)) h
  rw [check_ev sz l hmax _ (Nat.le_max_right _ _)] at h1
  exact (Option.some.inj h1).symm
theorem badB_not {n sz last : Int} {b : S39} (h : badB n sz last b = false) : last < b.f0 ∧ b.f0 < n ∧ b.f1.length = 32 ∧ zeroI b.f1 = false ∧ (sz - 32 * b.f0 < 32 → zeroI (b.f1.drop (sz - 32 * b.f0).toNat) = true) := by
  unfold badB at h
  simp only [Bool.or_eq_false_iff, decide_eq_false_iff_not, Bool.not_eq_false', decide_eq_true_eq, Bool.and_eq_false_iff] at h
  obtain ⟨h1, h2, h3, h4, h5⟩ := h
  refine ⟨by omega, by omega, by omega, h4, fun h6 => ?_⟩
  rcases h5 with h5 | h5
  · exact absurd h6 h5
  · exact h5
theorem checkL_good {n sz : Int} : ∀ {l : List S39} {last : Int}, -1 ≤ last → checkL n sz last l = 0 → (∀ b ∈ l, last < b.f0 ∧ b.f0 < n ∧ b.f1.length = 32 ∧ zeroI b.f1 = false ∧ (sz - 32 * b.f0 < 32 → zeroI (b.f1.drop (sz - 32 * b.f0).toNat) = true)) ∧ l.Pairwise (fun a b => a.f0 < b.f0)
  | [], _, _, _ => ⟨fun b hb => (by cases hb), List.Pairwise.nil⟩
  | b :: r, last, hl, h => by
    unfold checkL at h
    cases hb : badB n sz last b with
    | true => rw [hb, if_pos rfl] at h; cases h
    | false =>
      rw [hb, if_neg (by decide)] at h
      obtain ⟨h1, h2⟩ := badB_not hb
      obtain ⟨i1, i2⟩ := checkL_good (by omega) h
      refine ⟨fun c hc => ?_, List.pairwise_cons.2 ⟨fun c hc => (i1 c hc).1, i2⟩⟩
      rcases List.mem_cons.1 hc with rfl | hc
      · exact ⟨h1, h2⟩
      · obtain ⟨j1, j2⟩ := i1 c hc
        exact ⟨by omega, j2⟩
theorem inc_len : ∀ {l : List S39} {lo hi : Nat}, l.Pairwise (fun a b => a.f0 < b.f0) → (∀ b ∈ l, (lo : Int) ≤ b.f0 ∧ b.f0 < (hi : Int)) → l.length ≤ hi - lo
  | [], _, _, _, _ => Nat.zero_le _
  | b :: r, lo, hi, hp, hb => by
    obtain ⟨h1, h2⟩ := List.pairwise_cons.1 hp
    obtain ⟨h3, h4⟩ := hb b List.mem_cons_self
    obtain ⟨q, hq⟩ : ∃ q : Nat, b.f0 = (q : Int) := ⟨b.f0.toNat, by omega⟩
    have ih := inc_len (lo := q + 1) (hi := hi) h2 (fun c hc => ⟨by have := h1 c hc; omega, (hb c (List.mem_cons_of_mem _ hc)).2⟩)
    simp only [List.length_cons]
    omega
/-- What a file that may be is like. -/
theorem check_good {sz : Int} {l : List S39} (h : checkI sz l = 0) : (0 ≤ sz ∧ sz ≤ 2432) ∧ l.length ≤ 76 ∧ (∀ b ∈ l, 0 ≤ b.f0 ∧ b.f0 < 76 ∧ b.f1.length = 32) := by
  unfold checkI at h
  by_cases h1 : sz < 0
  · rw [if_pos h1] at h; cases h
  · rw [if_neg h1] at h
    by_cases h2 : 2432 < sz
    · rw [if_pos h2] at h; cases h
    · rw [if_neg h2] at h
      obtain ⟨i1, i2⟩ := checkL_good (by omega) h
      have h3 : ∀ b ∈ l, 0 ≤ b.f0 ∧ b.f0 < 76 ∧ b.f1.length = 32 := fun b hb => by
        obtain ⟨a, b', c, _⟩ := i1 b hb
        exact ⟨by omega, by omega, c⟩
      have h4 := inc_len (lo := 0) (hi := 76) i2 (fun b hb => ⟨(h3 b hb).1, (h3 b hb).2.1⟩)
      exact ⟨⟨by omega, by omega⟩, h4, h3⟩
theorem span_is {a : Int} {n : Nat} (h0 : 0 ≤ a) (hn : n ≤ 9223372036854775807) : ∃ x y, blockmap_Span.f 1 a (n : Int) = some (x, y, if a > 2432 ∨ (n : Int) > 2432 - a then 107 else 0) := by
  unfold blockmap_Span.f
  rw [if_neg (by unfold mn; omega)]
  have hj : ∀ z : Bool, (z = false → a + n ≤ 2432) → ∃ x y, blockmap_Span.j0 1 a (n : Int) z = some (x, y, if z = true then 107 else 0) := fun z hz => by
    simp only [blockmap_Span.j0]
    cases z with
    | true => exact ⟨0, 0, rfl⟩
    | false =>
      have hs := hz rfl
      rw [if_neg (by decide)]
      by_cases hn0 : (n : Int) = 0
      · rw [if_pos hn0]
        exact ⟨_, _, rfl⟩
      · rw [if_neg hn0]
        have e1 : wrap64 (a + n) = a + n := by unfold wrap64; omega
        have hu : ∃ q, blockmap_up.f (a + n) 32 = some q := by
          unfold blockmap_up.f
          rw [if_neg (by decide)]
          exact ⟨_, rfl⟩
        obtain ⟨q, hq⟩ := hu
        rw [e1, hq]
        exact ⟨_, _, rfl⟩
  by_cases h1 : a > 2432
  · rw [if_pos h1]
    obtain ⟨x, y, h⟩ := hj true (fun h => by cases h)
    exact ⟨x, y, by rw [h, if_pos rfl, if_pos (.inl h1)]⟩
  · rw [if_neg h1]
    have e1 : wrap64 (2432 - a) = 2432 - a := by unfold wrap64; omega
    rw [e1]
    by_cases h2 : (n : Int) > 2432 - a
    · obtain ⟨x, y, h⟩ := hj true (fun h => by cases h)
      exact ⟨x, y, by rw [decide_eq_true h2, h, if_pos rfl, if_pos (.inr h2)]⟩
    · obtain ⟨x, y, h⟩ := hj false (fun _ => by omega)
      exact ⟨x, y, by rw [decide_eq_false h2, h, if_neg (by decide), if_neg (by rintro (h3 | h3) <;> omega)]⟩
def writeR (a0 : Int) (l : List S39) (a1 : Int) (l2 : List Int) : Int × List S39 × Int :=
  if checkI a0 l = 0 then (if a1 < 0 then (0, [], 4) else if l2.length = 0 then (a0, fileI (lookI l), 0) else if a1 > 2432 ∨ (l2.length : Int) > 2432 - a1 then (0, [], 107) else (max a0 ((a1.toNat + l2.length : Nat) : Int), fileI (writeI (lookI l) a1.toNat l2), 0)) else (0, [], 9)
theorem checkL_two (n sz : Int) : ∀ (l : List S39) (last : Int), checkL n sz last l = 0 ∨ checkL n sz last l = 9
  | [], _ => .inl rfl
  | b :: r, last => by
    unfold checkL
    split
    · exact .inr rfl
    · exact checkL_two n sz r b.f0
theorem checkI_two (sz : Int) (l : List S39) : checkI sz l = 0 ∨ checkI sz l = 9 := by
  unfold checkI
  split
  · exact .inr rfl
  · split
    · exact .inr rfl
    · exact checkL_two _ _ _ _
theorem kE39 : ∀ q, q ∈ 39 :: k39.E → q ≠ 29 := by
  intro q hq
  have h_ : q = 39 ∨ q = 5 := by simpa [k39, Kd.iso, Kd.pair, Kd.int, Kd.scalar, Kd.slice] using hq
  rcases h_ with rfl | rfl <;> decide
def file_Write.f (a0_0 : Int) (l0_1 : List S39) (a1 : Int) (l2 : List Int) : Option (Int × List S39 × Int) := some (writeR a0_0 l0_1 a1 l2)
set_option maxHeartbeats 8000000 in
set_option maxRecDepth 100000 in
theorem file_Write.calls (a0_0 : Int) (A0_1 : Option Addr) (c0_1 : Nat) (l0_1 : List S39) (a1 : Int) (A2 : Option Addr) (c2 : Nat) (l2 : List Int) (r1 : Int) (r2 : List S39) (r3 : Int) (w : World) (hr0_1 : Kd.C k39 w A0_1 l0_1.length l0_1) (hc0_1 : l0_1.length ≤ c0_1) (hr2 : Kd.C (Kd.int .u8) w A2 l2.length l2) (hc2 : l2.length ≤ c2) (h : file_Write.f a0_0 l0_1 a1 l2 = some (r1, r2, r3)) :
    Calls Tryd.prog 10 #[.agg #[.int .i64 a0_0, .slice A0_1 l0_1.length c0_1], .int .i64 a1, .slice A2 l2.length c2] w fun e w' => ∃ v1_ : Value, e = .returned (.tuple #[.agg #[.int .i64 r1, v1_], .int .i64 r3]) ∧ Kd.S k39 39 w' w.heap.size (fun _ => True) v1_ r2 ∧ Below w.heap.size w w' := by
  have hmx := hr0_1.2.1
  have hmx2 := hr2.2.1
  have hck := check_ev a0_0 l0_1 hmx _ (Nat.le_refl _)
  have HRR : Aside0 (writeR a0_0 l0_1 a1 l2 = (r1, r2, r3)) := ⟨Option.some.inj h⟩
  have hu29 := Tryd.underlying29
  obtain ⟨gb, hgb⟩ : ∃ k, k = w.heap.size := ⟨_, rfl⟩
  obtain ⟨gr, hgr⟩ : ∃ k, k = w.heap.size + 1 := ⟨_, rfl⟩
  obtain ⟨W0, hW0⟩ : ∃ W, W = (w.alloc (.cells #[.int .i64 a0_0, .slice A0_1 l0_1.length c0_1] 29)).alloc (.cells #[.int .i64 0, .slice none 0 0] 29) := ⟨_, rfl⟩
  have hB0 : Below w.heap.size w W0 := by rw [hW0]; exact below_alloc (below_alloc (Below.refl _ _) _) _
  have HB0 := Aside0.mk hB0
  have HGB0 : Aside0 (W0.heap[gb]? = some (.cells #[.int .i64 a0_0, .slice A0_1 l0_1.length c0_1] 29 (0, 0))) := ⟨by
    rw [hW0, hgb]
    exact (Below.heap_alloc _ _ _ (by simp)).trans (MapKept.heap_alloc _ _).1⟩
  have HGR0 : Aside0 (W0.heap[gr]? = some (.cells #[.int .i64 0, .slice none 0 0] 29 (0, 0))) := ⟨by
    have h1 := (MapKept.heap_alloc (w.alloc (.cells #[.int .i64 a0_0, .slice A0_1 l0_1.length c0_1] 29)) (.cells #[.int .i64 0, .slice none 0 0] 29)).1
    have e1 : (w.alloc (.cells #[.int .i64 a0_0, .slice A0_1 l0_1.length c0_1] 29)).heap.size = w.heap.size + 1 := by simp
    rw [e1] at h1
    rw [hW0, hgr]
    exact h1⟩
  have HC0 := Aside0.mk (Kd.C_below hr0_1 hB0)
  have HD0 := Aside0.mk (Kd.C_below hr2 hB0)
  have HCC := Aside0.mk hc0_1
  have HDC := Aside0.mk hc2
  have HCK := Aside0.mk hck
  have HLE : Aside0 (w.heap.size ≤ gr) := ⟨by rw [hgr]; exact Nat.le_succ _⟩
  have HW0 := Aside0.mk hW0
  have HGBE := Aside0.mk hgb
  have HGRE := Aside0.mk hgr
  clear hr0_1 hr2 hc0_1 hc2 hck h hB0 hW0 hgb hgr
  rcases checkI_two a0_0 l0_1 with hz | hz
  case inr =>
    have hr := HRR.out
    unfold writeR at hr
    rw [if_neg (by rw [hz]; decide)] at hr
    simp only [Prod.mk.injEq] at hr
    obtain ⟨rfl, rfl, rfl⟩ := hr
    have HZ := Aside0.mk hz
    clear hz HRR HD0 HDC
    go_enter Tryd.func10, Tryd.ntmps10
    go_wp2_with (first
      | (go_at_call 21; go_loud (rw [← HW0.out]; refine (file_Check.calls _ a0_0 A0_1 c0_1 l0_1 _ _ HC0.out HCC.out HCK.out).mono ?_; rintro e w1 ⟨rfl, hb⟩; have HB1 := Aside0.mk (below_step HB0.out hb); have HGB1 := Aside0.mk ((hb.block gb (blk_lt HGB0.out)).trans HGB0.out); have HGR1 := Aside0.mk ((hb.block gr (blk_lt HGR0.out)).trans HGR0.out); have HC1 := Aside0.mk (Kd.C_below HC0.out hb); have hb10 := blk_cell HGB1.out 0; have hb11 := blk_cell HGB1.out 1; have hr10 := blk_cell HGR1.out 0; have hr11 := blk_cell HGR1.out 1; have hrf0 := blk_frozen HGR1.out 0; have hrf1 := blk_frozen HGR1.out 1; have he1 := HZ.out; rw [HZ.out]; rw [HGBE.out] at hb10 hb11; rw [HGRE.out] at hr10 hr11 hrf0 hrf1; clear hb)))
    rw [← HGRE.out]
    have HRB : Aside0 (((w1.setCell ⟨gr, 0, none⟩ (.int .i64 0)).setCell ⟨gr, 1, none⟩ (.slice none 0 0)).heap[gr]? = some (.cells #[.int .i64 0, .slice none 0 0] 29 (0, 0))) := ⟨by
      refine blk_put (cs := #[.int .i64 0, .slice none 0 0]) ?_ 1 _ rfl
      refine blk_put (cs := #[.int .i64 0, .slice none 0 0]) ?_ 0 _ rfl
      exact HGR1.out⟩
    have HBE := Aside0.mk (below_set (below_set HB1.out HLE.out (j := 0) (v := .int .i64 0)) HLE.out (j := 1) (v := .slice none 0 0))
    refine bodyPost_ret (results_ct rfl _ _ gr 29 #[.int .i64 0, .slice none 0 0] (0, 0) _ rfl HRB.out Tryd.underlying29 rfl (by kernel_rfl)) rfl ?_
    exact ⟨.slice none 0 0, rfl, Kd.S_nil _ _ _ _ _, HBE.out⟩
  case inl =>
    obtain ⟨hsz, hl76, hok⟩ := check_good hz
    have HZ := Aside0.mk hz
    have HOK := Aside0.mk hok
    have HL76 := Aside0.mk hl76
    have HSZ := Aside0.mk hsz
    have hr := HRR.out
    unfold writeR at hr
    rw [if_pos hz] at hr
    clear hz hok hl76 hsz HRR
    by_cases h1 : a1 < 0
    · rw [if_pos h1] at hr
      simp only [Prod.mk.injEq] at hr
      obtain ⟨rfl, rfl, rfl⟩ := hr
      have hd1 : decide (a1 < 0) = true := decide_eq_true h1
      clear h1 HD0 HDC
      go_enter Tryd.func10, Tryd.ntmps10
      go_wp2_with (first
        | (go_at_call 21; go_loud (rw [← HW0.out]; refine (file_Check.calls _ a0_0 A0_1 c0_1 l0_1 _ _ HC0.out HCC.out HCK.out).mono ?_; rintro e w1 ⟨rfl, hb⟩; have HB1 := Aside0.mk (below_step HB0.out hb); have HGB1 := Aside0.mk ((hb.block gb (blk_lt HGB0.out)).trans HGB0.out); have HGR1 := Aside0.mk ((hb.block gr (blk_lt HGR0.out)).trans HGR0.out); have HC1 := Aside0.mk (Kd.C_below HC0.out hb); have hb10 := blk_cell HGB1.out 0; have hb11 := blk_cell HGB1.out 1; have hr10 := blk_cell HGR1.out 0; have hr11 := blk_cell HGR1.out 1; have hrf0 := blk_frozen HGR1.out 0; have hrf1 := blk_frozen HGR1.out 1; have he1 := HZ.out; rw [HZ.out]; rw [HGBE.out] at hb10 hb11; rw [HGRE.out] at hr10 hr11 hrf0 hrf1; clear hb))
        | (go_at_call 22; go_loud (refine (look_calls a0_0 A0_1 c0_1 l0_1 _ HC1.out HL76.out HOK.out).mono ?_; rintro e w2 ⟨gv, rfl, hv, hb⟩; have HV2 := Aside0.mk hv; have HBV2 := Aside0.mk hb; have HB2 := Aside0.mk (below_step HB1.out hb); have HGR2 := Aside0.mk ((hb.block gr (blk_lt HGR1.out)).trans HGR1.out); have hr20 := blk_cell HGR2.out 0; have hr21 := blk_cell HGR2.out 1; have hqf0 := blk_frozen HGR2.out 0; have hqf1 := blk_frozen HGR2.out 1; rw [HGRE.out] at hr20 hr21 hqf0 hqf1; clear hv hb hb10 hb11 hr10 hr11 hrf0 hrf1)))
      rw [← HGRE.out]
      have HRB : Aside0 (((w2.setCell ⟨gr, 0, none⟩ (.int .i64 0)).setCell ⟨gr, 1, none⟩ (.slice none 0 0)).heap[gr]? = some (.cells #[.int .i64 0, .slice none 0 0] 29 (0, 0))) := ⟨by
        refine blk_put (cs := #[.int .i64 0, .slice none 0 0]) ?_ 1 _ rfl
        refine blk_put (cs := #[.int .i64 0, .slice none 0 0]) ?_ 0 _ rfl
        exact HGR2.out⟩
      have HBE := Aside0.mk (below_set (below_set HB2.out HLE.out (j := 0) (v := .int .i64 0)) HLE.out (j := 1) (v := .slice none 0 0))
      refine bodyPost_ret (results_ct rfl _ _ gr 29 #[.int .i64 0, .slice none 0 0] (0, 0) _ rfl HRB.out Tryd.underlying29 rfl (by kernel_rfl)) rfl ?_
      exact ⟨.slice none 0 0, rfl, Kd.S_nil _ _ _ _ _, HBE.out⟩
    · rw [if_neg h1] at hr
      have hd1 : decide (a1 < 0) = false := decide_eq_false h1
      by_cases h2 : l2.length = 0
      · rw [if_pos h2] at hr
        simp only [Prod.mk.injEq] at hr
        obtain ⟨rfl, rfl, rfl⟩ := hr
        have hd2 : ((l2.length : Int) == 0) = true := beq_iff_eq.mpr (by omega)
        have hd3 : (l2.length == 0) = true := beq_iff_eq.mpr h2
        clear h1 h2 HD0 HDC
        go_enter Tryd.func10, Tryd.ntmps10
        go_wp2_with (first
          | (go_at_call 21; go_loud (rw [← HW0.out]; refine (file_Check.calls _ a0_0 A0_1 c0_1 l0_1 _ _ HC0.out HCC.out HCK.out).mono ?_; rintro e w1 ⟨rfl, hb⟩; have HB1 := Aside0.mk (below_step HB0.out hb); have HGB1 := Aside0.mk ((hb.block gb (blk_lt HGB0.out)).trans HGB0.out); have HGR1 := Aside0.mk ((hb.block gr (blk_lt HGR0.out)).trans HGR0.out); have HC1 := Aside0.mk (Kd.C_below HC0.out hb); have hb10 := blk_cell HGB1.out 0; have hb11 := blk_cell HGB1.out 1; have hr10 := blk_cell HGR1.out 0; have hr11 := blk_cell HGR1.out 1; have hrf0 := blk_frozen HGR1.out 0; have hrf1 := blk_frozen HGR1.out 1; have he1 := HZ.out; rw [HZ.out]; rw [HGBE.out] at hb10 hb11; rw [HGRE.out] at hr10 hr11 hrf0 hrf1; clear hb))
          | (go_at_call 22; go_loud (refine (look_calls a0_0 A0_1 c0_1 l0_1 _ HC1.out HL76.out HOK.out).mono ?_; rintro e w2 ⟨gv, rfl, hv, hb⟩; have HV2 := Aside0.mk hv; have HBV2 := Aside0.mk hb; have HB2 := Aside0.mk (below_step HB1.out hb); have HGR2 := Aside0.mk ((hb.block gr (blk_lt HGR1.out)).trans HGR1.out); have hr20 := blk_cell HGR2.out 0; have hr21 := blk_cell HGR2.out 1; have hqf0 := blk_frozen HGR2.out 0; have hqf1 := blk_frozen HGR2.out 1; rw [HGRE.out] at hr20 hr21 hqf0 hqf1; clear hv hb hb10 hb11 hr10 hr11 hrf0 hrf1))
          | (go_at_call 23; go_loud (refine (file_calls w1 gv _ _ _ _ HBV2.out HV2.out).mono ?_; rintro e w5 ⟨v5, rfl, hs, hb⟩; obtain ⟨Af, cf, rfl⟩ := Kd.S_slice hs; have HS5 := Aside0.mk hs; have HB5 := Aside0.mk (below_step HB1.out hb); have HGR5 := Aside0.mk ((hb.block gr (blk_lt HGR1.out)).trans HGR1.out); have hr50 := blk_cell HGR5.out 0; have hr51 := blk_cell HGR5.out 1; have hsf0 := blk_frozen HGR5.out 0; have hsf1 := blk_frozen HGR5.out 1; rw [HGRE.out] at hr50 hr51 hsf0 hsf1; clear hs hb hr20 hr21 hqf0 hqf1)))
        obtain ⟨n_, hn_⟩ : ∃ n_, n_ = (fileI (lookI l0_1)).length := ⟨_, rfl⟩
        have HFIN : Aside0 (Kd.S k39 39 ((w5.setCell ⟨gr, 0, none⟩ (.int .i64 (a0_0))).setCell ⟨gr, 1, none⟩ (.slice Af n_ cf)) w.heap.size (fun _ => True) (.slice Af n_ cf) (fileI (lookI l0_1))) := ⟨by
          rw [hn_]
          exact Kd.S_lower (Kd.S_set (Kd.S_set HS5.out HGR5.out kE39 0 (.int .i64 (a0_0))) (blk_put HGR5.out 0 (.int .i64 (a0_0)) rfl) kE39 1 _) HB1.out.size⟩
        rw [← hn_]
        rw [← HGRE.out]
        have HRB : Aside0 (((w5.setCell ⟨gr, 0, none⟩ (.int .i64 (a0_0))).setCell ⟨gr, 1, none⟩ (.slice Af n_ cf)).heap[gr]? = some (.cells #[.int .i64 (a0_0), .slice Af n_ cf] 29 (0, 0))) := ⟨by
          refine blk_put (cs := #[.int .i64 (a0_0), .slice none 0 0]) ?_ 1 _ rfl
          refine blk_put (cs := #[.int .i64 0, .slice none 0 0]) ?_ 0 _ rfl
          exact HGR5.out⟩
        have HBE := Aside0.mk (below_set (below_set HB5.out HLE.out (j := 0) (v := .int .i64 (a0_0))) HLE.out (j := 1) (v := .slice Af n_ cf))
        refine bodyPost_ret (results_ct rfl _ _ gr 29 #[.int .i64 (a0_0), .slice Af n_ cf] (0, 0) _ rfl HRB.out Tryd.underlying29 rfl (by kernel_rfl)) rfl ?_
        exact ⟨.slice Af n_ cf, rfl, HFIN.out, HBE.out⟩
      · rw [if_neg h2] at hr
        have hd2 : ((l2.length : Int) == 0) = false := beq_eq_false_iff_ne.mpr (by omega)
        have hd3 : (l2.length == 0) = false := beq_eq_false_iff_ne.mpr h2
        obtain ⟨xs, ys, hsp⟩ := span_is (a := a1) (n := l2.length) (by omega) hmx2
        by_cases h3 : a1 > 2432 ∨ (l2.length : Int) > 2432 - a1
        · rw [if_pos h3] at hr hsp
          simp only [Prod.mk.injEq] at hr
          obtain ⟨rfl, rfl, rfl⟩ := hr
          have HSP := Aside0.mk hsp
          clear h1 h2 h3 hsp HD0 HDC
          go_enter Tryd.func10, Tryd.ntmps10
          go_wp2_with (first
            | (go_at_call 21; go_loud (rw [← HW0.out]; refine (file_Check.calls _ a0_0 A0_1 c0_1 l0_1 _ _ HC0.out HCC.out HCK.out).mono ?_; rintro e w1 ⟨rfl, hb⟩; have HB1 := Aside0.mk (below_step HB0.out hb); have HGB1 := Aside0.mk ((hb.block gb (blk_lt HGB0.out)).trans HGB0.out); have HGR1 := Aside0.mk ((hb.block gr (blk_lt HGR0.out)).trans HGR0.out); have HC1 := Aside0.mk (Kd.C_below HC0.out hb); have hb10 := blk_cell HGB1.out 0; have hb11 := blk_cell HGB1.out 1; have hr10 := blk_cell HGR1.out 0; have hr11 := blk_cell HGR1.out 1; have hrf0 := blk_frozen HGR1.out 0; have hrf1 := blk_frozen HGR1.out 1; have he1 := HZ.out; rw [HZ.out]; rw [HGBE.out] at hb10 hb11; rw [HGRE.out] at hr10 hr11 hrf0 hrf1; clear hb))
            | (go_at_call 22; go_loud (refine (look_calls a0_0 A0_1 c0_1 l0_1 _ HC1.out HL76.out HOK.out).mono ?_; rintro e w2 ⟨gv, rfl, hv, hb⟩; have HV2 := Aside0.mk hv; have HBV2 := Aside0.mk hb; have HB2 := Aside0.mk (below_step HB1.out hb); have HGR2 := Aside0.mk ((hb.block gr (blk_lt HGR1.out)).trans HGR1.out); have hr20 := blk_cell HGR2.out 0; have hr21 := blk_cell HGR2.out 1; have hqf0 := blk_frozen HGR2.out 0; have hqf1 := blk_frozen HGR2.out 1; rw [HGRE.out] at hr20 hr21 hqf0 hqf1; clear hv hb hb10 hb11 hr10 hr11 hrf0 hrf1))
            | (go_at_call 24; go_loud (refine (blockmap_Span.calls 1 _ _ _ _ _ _ HSP.out).mono ?_; rintro e w3 ⟨rfl, hb⟩; have HV3 := Aside0.mk (HV2.out.below hb); have HBV3 := Aside0.mk (below_step HBV2.out hb); have HB3 := Aside0.mk (below_step HB2.out hb); have HGR3 := Aside0.mk ((hb.block gr (blk_lt HGR2.out)).trans HGR2.out); have hr30 := blk_cell HGR3.out 0; have hr31 := blk_cell HGR3.out 1; have hpf0 := blk_frozen HGR3.out 0; have hpf1 := blk_frozen HGR3.out 1; rw [HGRE.out] at hr30 hr31 hpf0 hpf1; clear hb hr20 hr21 hqf0 hqf1)))
          rw [← HGRE.out]
          have HRB : Aside0 (((w3.setCell ⟨gr, 0, none⟩ (.int .i64 0)).setCell ⟨gr, 1, none⟩ (.slice none 0 0)).heap[gr]? = some (.cells #[.int .i64 0, .slice none 0 0] 29 (0, 0))) := ⟨by
            refine blk_put (cs := #[.int .i64 0, .slice none 0 0]) ?_ 1 _ rfl
            refine blk_put (cs := #[.int .i64 0, .slice none 0 0]) ?_ 0 _ rfl
            exact HGR3.out⟩
          have HBE := Aside0.mk (below_set (below_set HB3.out HLE.out (j := 0) (v := .int .i64 0)) HLE.out (j := 1) (v := .slice none 0 0))
          refine bodyPost_ret (results_ct rfl _ _ gr 29 #[.int .i64 0, .slice none 0 0] (0, 0) _ rfl HRB.out Tryd.underlying29 rfl (by kernel_rfl)) rfl ?_
          exact ⟨.slice none 0 0, rfl, Kd.S_nil _ _ _ _ _, HBE.out⟩
        · rw [if_neg h3] at hr hsp
          simp only [Prod.mk.injEq] at hr
          obtain ⟨rfl, rfl, rfl⟩ := hr
          obtain ⟨off, hoff⟩ : ∃ o : Nat, a1 = (o : Int) := ⟨a1.toNat, by omega⟩
          subst hoff
          rw [Int.toNat_natCast]
          have HOF : Aside0 (off + l2.length ≤ 2432) := ⟨by omega⟩
          have HSP := Aside0.mk hsp
          clear h1 h2 h3 hsp
          go_enter Tryd.func10, Tryd.ntmps10
          go_wp2_with (first
            | (go_at_call 21; go_loud (rw [← HW0.out]; refine (file_Check.calls _ a0_0 A0_1 c0_1 l0_1 _ _ HC0.out HCC.out HCK.out).mono ?_; rintro e w1 ⟨rfl, hb⟩; have HB1 := Aside0.mk (below_step HB0.out hb); have HGB1 := Aside0.mk ((hb.block gb (blk_lt HGB0.out)).trans HGB0.out); have HGR1 := Aside0.mk ((hb.block gr (blk_lt HGR0.out)).trans HGR0.out); have HC1 := Aside0.mk (Kd.C_below HC0.out hb); have HD1 := Aside0.mk (Kd.C_below HD0.out hb); have hb10 := blk_cell HGB1.out 0; have hb11 := blk_cell HGB1.out 1; have hr10 := blk_cell HGR1.out 0; have hr11 := blk_cell HGR1.out 1; have hrf0 := blk_frozen HGR1.out 0; have hrf1 := blk_frozen HGR1.out 1; have he1 := HZ.out; rw [HZ.out]; rw [HGBE.out] at hb10 hb11; rw [HGRE.out] at hr10 hr11 hrf0 hrf1; clear hb))
            | (go_at_call 22; go_loud (refine (look_calls a0_0 A0_1 c0_1 l0_1 _ HC1.out HL76.out HOK.out).mono ?_; rintro e w2 ⟨gv, rfl, hv, hb⟩; have HV2 := Aside0.mk hv; have HBV2 := Aside0.mk hb; have HB2 := Aside0.mk (below_step HB1.out hb); have HGR2 := Aside0.mk ((hb.block gr (blk_lt HGR1.out)).trans HGR1.out); have hr20 := blk_cell HGR2.out 0; have hr21 := blk_cell HGR2.out 1; have hqf0 := blk_frozen HGR2.out 0; have hqf1 := blk_frozen HGR2.out 1; rw [HGRE.out] at hr20 hr21 hqf0 hqf1; clear hv hb hb10 hb11 hr10 hr11 hrf0 hrf1))
            | (go_at_call 24; go_loud (refine (blockmap_Span.calls 1 _ _ _ _ _ _ HSP.out).mono ?_; rintro e w3 ⟨rfl, hb⟩; have HV3 := Aside0.mk (HV2.out.below hb); have HBV3 := Aside0.mk (below_step HBV2.out hb); have HB3 := Aside0.mk (below_step HB2.out hb); have HGR3 := Aside0.mk ((hb.block gr (blk_lt HGR2.out)).trans HGR2.out); have hr30 := blk_cell HGR3.out 0; have hr31 := blk_cell HGR3.out 1; have hpf0 := blk_frozen HGR3.out 0; have hpf1 := blk_frozen HGR3.out 1; rw [HGRE.out] at hr30 hr31 hpf0 hpf1; clear hb hr20 hr21 hqf0 hqf1))
            | (go_at_call 25; go_loud (refine (write_calls w1 gv l0_1.length a0_0 (lookI l0_1) off A2 c2 l2 _ HBV3.out HV3.out HD1.out HDC.out HOF.out (Nat.le_trans HL76.out (by decide)) HSZ.out).mono ?_; rintro e w4 ⟨rfl, hv, hb⟩; have HV4 := Aside0.mk hv; have HBV4 := Aside0.mk hb; clear hv hb hr30 hr31 hpf0 hpf1))
            | (go_at_call 23; go_loud (refine (file_calls w1 gv _ _ _ _ HBV4.out HV4.out).mono ?_; rintro e w5 ⟨v5, rfl, hs, hb⟩; obtain ⟨Af, cf, rfl⟩ := Kd.S_slice hs; have HS5 := Aside0.mk hs; have HB5 := Aside0.mk (below_step HB1.out hb); have HGR5 := Aside0.mk ((hb.block gr (blk_lt HGR1.out)).trans HGR1.out); have hr50 := blk_cell HGR5.out 0; have hr51 := blk_cell HGR5.out 1; have hsf0 := blk_frozen HGR5.out 0; have hsf1 := blk_frozen HGR5.out 1; rw [HGRE.out] at hr50 hr51 hsf0 hsf1; clear hs hb)))
          obtain ⟨n_, hn_⟩ : ∃ n_, n_ = (fileI (writeI (lookI l0_1) off l2)).length := ⟨_, rfl⟩
          have HFIN : Aside0 (Kd.S k39 39 ((w5.setCell ⟨gr, 0, none⟩ (.int .i64 (max a0_0 ((off + l2.length : Nat) : Int)))).setCell ⟨gr, 1, none⟩ (.slice Af n_ cf)) w.heap.size (fun _ => True) (.slice Af n_ cf) (fileI (writeI (lookI l0_1) off l2))) := ⟨by
            rw [hn_]
            exact Kd.S_lower (Kd.S_set (Kd.S_set HS5.out HGR5.out kE39 0 (.int .i64 (max a0_0 ((off + l2.length : Nat) : Int)))) (blk_put HGR5.out 0 (.int .i64 (max a0_0 ((off + l2.length : Nat) : Int))) rfl) kE39 1 _) HB1.out.size⟩
          rw [← hn_]
          rw [← HGRE.out]
          have HRB : Aside0 (((w5.setCell ⟨gr, 0, none⟩ (.int .i64 (max a0_0 ((off + l2.length : Nat) : Int)))).setCell ⟨gr, 1, none⟩ (.slice Af n_ cf)).heap[gr]? = some (.cells #[.int .i64 (max a0_0 ((off + l2.length : Nat) : Int)), .slice Af n_ cf] 29 (0, 0))) := ⟨by
            refine blk_put (cs := #[.int .i64 (max a0_0 ((off + l2.length : Nat) : Int)), .slice none 0 0]) ?_ 1 _ rfl
            refine blk_put (cs := #[.int .i64 0, .slice none 0 0]) ?_ 0 _ rfl
            exact HGR5.out⟩
          have HBE := Aside0.mk (below_set (below_set HB5.out HLE.out (j := 0) (v := .int .i64 (max a0_0 ((off + l2.length : Nat) : Int)))) HLE.out (j := 1) (v := .slice Af n_ cf))
          refine bodyPost_ret (results_ct rfl _ _ gr 29 #[.int .i64 (max a0_0 ((off + l2.length : Nat) : Int)), .slice Af n_ cf] (0, 0) _ rfl HRB.out Tryd.underlying29 rfl (by kernel_rfl)) rfl ?_
          exact ⟨.slice Af n_ cf, rfl, HFIN.out, HBE.out⟩

end Go.Proofs.YtomebhohkonhlaaDoor.PFtx
