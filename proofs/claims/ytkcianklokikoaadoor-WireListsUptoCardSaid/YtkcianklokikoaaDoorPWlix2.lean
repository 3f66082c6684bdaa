-- Written by a program of this session (gen.py).
import Derived.Test.YtkcianklokikoaaDoorPWlix0
import Derived.Test.YtkcianklokikoaaDoorPWlix1
namespace Go.Proofs.YtkcianklokikoaaDoor.PWli
open Go.RowKit Go.Proofs.YtkcianklokikoaaDoorW.PrintWords Go.Proofs.YtkcianklokikoaaDoorW.PrintLast Go.Proofs.YtkcianklokikoaaDoorW.PrintMore
open Go.Proofs.YtkcianklokikoaaDoor.Own
attribute [local go_sem high] unary_not_u32 unary_not_u64 unary_not_u8 string_leq_ string_gtr_
attribute [local go_sem] max2_int min2_int max_two min_two max_three min_three max_four min_four   -- for this text's walks alone
set_option linter.unusedVariables false
set_option linter.unusedSimpArgs false

/-! ### wire_Split: function 13 -/
/-- An error of octets. -/
def errF : Option Int → Value
  | none => .nilIface
  | some c => .iface 77 (.agg #[.int .i64 c])
theorem errF_none : errF none = .nilIface := rfl
theorem errF_some (c : Int) : errF (some c) = .iface 77 (.agg #[.int .i64 c]) := rfl
/-- All are octets. -/
def oct5 (l : List Int) : Bool := l.all fun x => decide (0 ≤ x) && decide (x ≤ 255)
theorem oct5_at {l : List Int} (h : oct5 l = true) {x : Int} (hx : x ∈ l) : 0 ≤ x ∧ x ≤ 255 := by
  have := List.all_eq_true.1 h x hx
  simp at this
  exact this
theorem oct5_sub {l m : List Int} (h : oct5 l = true) (hm : ∀ x ∈ m, x ∈ l) : oct5 m = true := List.all_eq_true.2 (fun x hx => List.all_eq_true.1 h x (hm x hx))
/-- A scanner at g, with l as its rest; what it reads lies in w0. -/
structure Sc (w0 W : World) (g : Nat) (l : List Int) : Prop where
  low : w0.heap.size ≤ g
  below : Below w0.heap.size w0 W
  oct : oct5 l = true
  box : ∃ A c, W.heap[g]? = some (.cells #[.slice A l.length c] 57 (0, 0)) ∧ l.length ≤ c ∧ Kd.C (Kd.int .u8) w0 A l.length l
def takeI (n : Nat) (l : List Int) : (List Int × Option Int) × List Int := if l.length < n then (([], some 8), l) else ((l.take n, none), l.drop n)
def octetI : List Int → (Int × Option Int) × List Int
  | [] => ((0, some 8), [])
  | x :: r => ((x, none), r)
theorem Sc.moved {w0 W W' : World} {g : Nat} {l : List Int} (h : Sc w0 W g l) (hb : Below W.heap.size W W') : Sc w0 W' g l := by
  obtain ⟨h1, h2, h3, A, c, h4, h5⟩ := h
  exact ⟨h1, below_step h2 hb, h3, A, c, (hb.block g (Array.getElem?_eq_some_iff.1 h4).1).trans h4, h5⟩
theorem Sc.lt {w0 W : World} {g : Nat} {l : List Int} (h : Sc w0 W g l) : g < W.heap.size := by
  obtain ⟨h1, h2, h3, A, c, h4, h5⟩ := h
  exact blk_lt h4
set_option maxHeartbeats 8000000 in
set_option maxRecDepth 100000 in
theorem take_calls (w0 W : World) (g n : Nat) (l : List Int) (hs : Sc w0 W g l) (hn : n ≤ 1099511627776) :
    Calls Tryd.prog 24 #[.pointer (some ⟨g, 0, none⟩), .int .i64 (n : Int)] W fun e w' => ∃ A c, e = .returned (.tuple #[.slice A (takeI n l).1.1.length c, errF (takeI n l).1.2]) ∧ (takeI n l).1.1.length ≤ c ∧ Kd.C (Kd.int .u8) w0 A (takeI n l).1.1.length (takeI n l).1.1 ∧ Sc w0 w' g (takeI n l).2 ∧ Kept W w' (fun k => k = g) := by
  have HSC := Aside0.mk hs
  obtain ⟨h1, h2, h3, A, c, h4, h5, h6⟩ := hs
  have hc0 : W.cell? ⟨g, 0, none⟩ = some (.slice A l.length c) := (blk_cell h4 0).trans rfl
  have hf0 := blk_frozen h4 0
  have HB4 := Aside0.mk h4
  by_cases hlt : l.length < n
  · have he : takeI n l = (([], some 8), l) := by unfold takeI; rw [if_pos hlt]
    rw [he]
    have hd : decide ((l.length : Int) < (n : Int)) = true := decide_eq_true (by omega)
    have hp : ((l.length : Int) < (n : Int)) = True := eq_true (by omega)
    have hp2 : (l.length < n) = True := eq_true hlt
    have HK := Aside0.mk (Kept.refl W (fun k => k = g))
    clear h1 h2 h3 h4 h5 h6 he
    go_enter Tryd.func24, Tryd.ntmps24
    go_wp2
    go_ret2
    exact ⟨none, 0, by rw [errF_some]; rfl, Nat.le_refl _, ⟨rfl, by decide, fun h => absurd h (by decide)⟩, HSC.out, HK.out⟩
  · have hle : n ≤ l.length := by omega
    have he : takeI n l = ((l.take n, none), l.drop n) := by unfold takeI; rw [if_neg hlt]
    rw [he]
    have hd : decide ((l.length : Int) < (n : Int)) = false := decide_eq_false (by omega)
    have hp : ((l.length : Int) < (n : Int)) = False := eq_false (by omega)
    have hp2 : (l.length < n) = False := eq_false hlt
    obtain ⟨i0, hi0, hz0, hs0, _⟩ := info_parts info5
    have k1 : ∀ W : World, (Instr.slice 23 (.slice A l.length c) none (some (.int .i64 (n : Int))) none).run Tryd.prog W = .ok (.slice A n c) W := fun W => by
      have h_ := cut_to (P := Tryd.prog) 23 5 .i64 Tryd.underlying23 hi0 A l.length c (n : Int) (by omega) (by omega) h5 W
      rwa [Int.toNat_natCast] at h_
    have hC1 := Kd.C_take h6 hle
    have hC2 := Kd.C_drop h6 hle h5
    have hl1 : (l.take n).length = n := by rw [List.length_take]; omega
    have hl2 : (l.drop n).length = l.length - n := List.length_drop
    have hk2 : ∀ W : World, (Instr.slice 23 (.slice A l.length c) (some (.int .i64 (n : Int))) none none).run Tryd.prog W = .ok (.slice (if c = n then A else A.map (·.add (n * 1))) (l.drop n).length (c - n)) W := fun W => by
      have h_ := cut_from (P := Tryd.prog) 23 5 .i64 Tryd.underlying23 hi0 1 hs0 A l.length c (n : Int) (by omega) (by omega) W
      rw [Int.toNat_natCast] at h_
      rw [hl2]
      exact h_
    have hC2 : Kd.C (Kd.int .u8) w0 (if c = n then A else A.map (·.add (n * 1))) (l.drop n).length (l.drop n) := hC2
    rw [hl1] at hC1
    generalize (if c = n then A else A.map (·.add (n * 1))) = A2 at hk2 hC2
    have ho2 : oct5 (l.drop n) = true := oct5_sub h3 (fun x hx => List.mem_of_mem_drop hx)
    have hle2 : (l.drop n).length ≤ c - n := by rw [hl2]; omega
    have hnc : n ≤ c := by omega
    have H1 := Aside0.mk h1
    have H2 := Aside0.mk h2
    have HC1 := Aside0.mk hC1
    have HC2 := Aside0.mk hC2
    have HO := Aside0.mk ho2
    have HL1 := Aside0.mk hl1
    have HLE2 := Aside0.mk hle2
    have HNC := Aside0.mk hnc
    clear h1 h2 h3 h4 h5 h6 he hC1 hC2 hl1 hl2 ho2 hle2 hnc hs0 hz0 hi0 hle hlt
    generalize l.drop n = r at *
    generalize hyy : l.take n = y at *
    go_enter Tryd.func24, Tryd.ntmps24
    go_wp2
    go_ret2
    refine ⟨A, c, by rw [HL1.out]; rfl, by rw [HL1.out]; exact HNC.out, by rw [HL1.out]; exact HC1.out, ⟨H1.out, below_set H2.out H1.out, HO.out, A2, c - n, blk_put HB4.out 0 _ rfl, HLE2.out, HC2.out⟩, ⟨by simp [World.setCell], fun i hi hne => Below.heap_setCell _ _ _ _ (fun e => hne e)⟩⟩
/-- The texts that octets are split into. -/
def splitF : Nat → List (List Int) → List Int → List (List Int) × Option Int
  | 0, acc, _ => (acc, none)
  | f + 1, acc, l => match l with
    | [] => (acc, none)
    | [_] => ([], some 8)
    | x :: y :: r => if r.length < (x * 256 + y).toNat then ([], some 8) else splitF f (acc ++ [r.take (x * 256 + y).toNat]) (r.drop (x * 256 + y).toNat)
theorem splitF_step {f : Nat} {acc : List (List Int)} {x y : Int} {r : List Int} {n : Nat} (hn : (n : Int) = x * 256 + y) (h : ¬ r.length < n) : splitF (f + 1) acc (x :: y :: r) = splitF f (acc ++ [r.take n]) (r.drop n) := by
  rw [splitF, ← hn, Int.toNat_natCast, if_neg h]
theorem splitF_short {f : Nat} {acc : List (List Int)} {x y : Int} {r : List Int} {n : Nat} (hn : (n : Int) = x * 256 + y) (h : r.length < n) : splitF (f + 1) acc (x :: y :: r) = ([], some 8) := by
  rw [splitF, ← hn, Int.toNat_natCast, if_pos h]
theorem take_at {w0 W : World} {g n : Nat} {l y r : List Int} {er : Option Int} (hs : Sc w0 W g l) (hn : n ≤ 1099511627776) (h : takeI n l = ((y, er), r)) : Calls Tryd.prog 24 #[.pointer (some ⟨g, 0, none⟩), .int .i64 (n : Int)] W fun e w' => ∃ A c, e = .returned (.tuple #[.slice A y.length c, errF er]) ∧ y.length ≤ c ∧ Kd.C (Kd.int .u8) w0 A y.length y ∧ Sc w0 w' g r ∧ Kept W w' (fun k => k = g) := by
  have := take_calls w0 W g n l hs hn
  rwa [h] at this
theorem Sc.moved2 {w0 W W' : World} {g b : Nat} {l : List Int} (h : Sc w0 W g l) (hb : Below b W W') (hg : g < b) : Sc w0 W' g l := by
  obtain ⟨h1, h2, h3, A, c, h4, h5⟩ := h
  exact ⟨h1, h2.trans (Below.mono hb (by omega)), h3, A, c, (hb.block g hg).trans h4, h5⟩
theorem take2_bad (w0 W : World) (g : Nat) (x : Int) (hs : Sc w0 W g [x]) : Calls Tryd.prog 24 #[.pointer (some ⟨g, 0, none⟩), .int .i64 2] W fun e w' => ∃ A c, e = .returned (.tuple #[.slice A 0 c, .iface 77 (.agg #[.int .i64 8])]) ∧ Sc w0 w' g [x] ∧ Kept W w' (fun k => k = g) := by
  refine Calls.mono (take_calls w0 W g 2 [x] hs (by decide)) ?_
  rintro e w' ⟨A, c, rfl, _, _, h1, h2⟩
  exact ⟨A, c, rfl, h1, h2⟩
theorem take2_good (w0 W : World) (g : Nat) (x y : Int) (r : List Int) (hs : Sc w0 W g (x :: y :: r)) : Calls Tryd.prog 24 #[.pointer (some ⟨g, 0, none⟩), .int .i64 2] W fun e w' => ∃ ad c, e = .returned (.tuple #[.slice (some ad) 2 c, .nilIface]) ∧ (∀ W' : World, Below w0.heap.size w0 W' → W'.cell? ad = some (.int .u8 x) ∧ W'.cell? ⟨ad.block, ad.off + 1, none⟩ = some (.int .u8 y)) ∧ Sc w0 w' g r ∧ Kept W w' (fun k => k = g) := by
  refine Calls.mono (take_calls w0 W g 2 (x :: y :: r) hs (by decide)) ?_
  rintro e w' ⟨A, c, rfl, h0, hC, h1, h2⟩
  have e1 : takeI 2 (x :: y :: r) = (([x, y], none), r) := by unfold takeI; rw [if_neg (by simp)]; rfl
  rw [e1] at hC h1 ⊢
  have hC' : Kd.C (Kd.int .u8) w0 A 2 [x, y] := hC
  obtain ⟨ad, rfl, hx⟩ := Kd.at_int hC' 0 (by decide) (by decide)
  obtain ⟨ad2, e2, hy⟩ := Kd.at_int hC' 1 (by decide) (by decide)
  obtain rfl : ad = ad2 := by injection e2
  have hx2 : w0.cell? ad = some (.int .u8 x) := by
    have h3 : w0.cell? (ad.add 0) = some (.int .u8 x) := hx
    rwa [show ad.add 0 = ad from rfl] at h3
  have ea : ad.add 1 = ⟨ad.block, ad.off + 1, none⟩ := by unfold Addr.add; rw [if_neg (by decide)]
  have hy2 : w0.cell? ⟨ad.block, ad.off + 1, none⟩ = some (.int .u8 y) := by rw [← ea]; exact hy
  exact ⟨ad, c, rfl, fun W' hb => ⟨pw_cell_below hb hx2, pw_cell_below hb hy2⟩, h1, h2⟩
theorem or_split : ∀ a : Nat, a < 256 → ∀ b : Nat, b < 256 → Go.bits .or .i64 ((a * 256 : Nat) : Int) (b : Int) = ((a * 256 + b : Nat) : Int) := by
  intro a ha b hb
  show IntKind.i64.wrap ((BitVec.ofInt 64 ((a * 256 : Nat) : Int) ||| BitVec.ofInt 64 (b : Int)).toNat : Int) = _
  have h1 : (BitVec.ofInt 64 ((a * 256 : Nat) : Int)).toNat = a * 256 := by rw [BitVec.ofInt_natCast, BitVec.toNat_ofNat]; exact Nat.mod_eq_of_lt (by omega)
  have h2 : (BitVec.ofInt 64 (b : Int)).toNat = b := by rw [BitVec.ofInt_natCast, BitVec.toNat_ofNat]; exact Nat.mod_eq_of_lt (by omega)
  have h3 : a * 256 ||| b = a * 256 + b := by
    have := Nat.two_pow_add_eq_or_of_lt (i := 8) (show b < 2 ^ 8 by omega) a
    rw [Nat.mul_comm a 256]
    exact this.symm
  rw [BitVec.toNat_or, h1, h2, h3, IntKind.wrap_i64]
  omega
section
open Go.Extern.Stop Go.Stop Go.Extern
theorem as_valueOf79 (t : Addr) (w : World) : (ReflectliteValue.unpack (.iface 79 (.pointer (some t)))).run Tryd.prog w
    = .ok (.agg #[.pointer (some ⟨1, 79, none⟩), .pointer (some ⟨w.heap.size, 0, none⟩), .int .u64 150]) (w.alloc (.cells #[.pointer (some t)] 79)) := by kernel_rfl
theorem as_type79 (a : Addr) (w : World) : (ReflectliteValue.methodAny (ReflectliteValue.valueError "reflectlite.Value.Type" 0) (fun t _ _ _ => ReflectliteType.toType t) #[.agg #[.pointer (some ⟨1, 79, none⟩), .pointer (some a), .int .u64 150]]).run Tryd.prog w
    = .ok (.iface 109 (.agg #[.pointer (some ⟨1, 79, none⟩)])) w := by kernel_rfl
theorem as_kind79 (w : World) : ((ReflectliteType.abiMethod fun t => (fun a : Nat => Value.int IntKind.u8 (a : Int)) <$> Rtype.kind t) #[.pointer (some ⟨1, 79, none⟩)]).run Tryd.prog w = .ok (.int .u8 22) w := by kernel_rfl
theorem as_kind77 (w : World) : ((ReflectliteType.abiMethod fun t => (fun a : Nat => Value.int IntKind.u8 (a : Int)) <$> Rtype.kind t) #[.pointer (some ⟨1, 77, none⟩)]).run Tryd.prog w = .ok (.int .u8 25) w := by kernel_rfl
theorem as_rlm (z : Sem Value) (f : TypeId → Addr → Nat → Nat → Sem Value) (v : Value) :
    ReflectliteValue.method z f #[v] = (do match ← ReflectliteValue.parts v with | none => z | some (t, a, fl) => f t a fl (fl % 32)) := rfl
theorem as_parts79 (a : Addr) (w : World) : (ReflectliteValue.parts (.agg #[.pointer (some ⟨1, 79, none⟩), .pointer (some a), .int .u64 150])).run Tryd.prog w = .ok (some (79, a, 150)) w := by kernel_rfl
theorem as_isNil79 (a p : Addr) (W : World) (ha : W.cell? a = some (.pointer (some p))) :
    (ReflectliteValue.method (ReflectliteValue.valueError "reflectlite.Value.IsNil" 0) ReflectliteValue.isNil #[.agg #[.pointer (some ⟨1, 79, none⟩), .pointer (some a), .int .u64 150]]).run Tryd.prog W = .ok (.bool false) W := by
  rw [as_rlm]
  simp only [Sem.run_bind, as_parts79, Result.andThen]
  simp [ReflectliteValue.isNil, loadVar, isAgg, underlying, Tryd.underlying79, ha, Result.andThen]
theorem as_elem79 (w : World) : (ReflectliteType.method ReflectliteType.elem #[.agg #[.pointer (some ⟨1, 79, none⟩)]]).run Tryd.prog w = .ok (.iface 109 (.agg #[.pointer (some ⟨1, 77, none⟩)])) w := by kernel_rfl
theorem as_implements77 (w : World) : (ReflectliteType.relation "Implements" ReflectliteType.implements_ #[.agg #[.pointer (some ⟨1, 77, none⟩)], .iface 109 (.agg #[.pointer (some ⟨1, 59, none⟩)])]).run Tryd.prog w = .ok (.bool true) w := by kernel_rfl
theorem as_typeOf77 (v : Value) (w : World) : (ReflectliteType.typeOf #[.iface 77 v]).run Tryd.prog w = .ok (.iface 109 (.agg #[.pointer (some ⟨1, 77, none⟩)])) w := by kernel_rfl
theorem as_assignable77 (w : World) : (ReflectliteType.relation "AssignableTo" ReflectliteType.assignableTo #[.agg #[.pointer (some ⟨1, 77, none⟩)], .iface 109 (.agg #[.pointer (some ⟨1, 77, none⟩)])]).run Tryd.prog w = .ok (.bool true) w := by kernel_rfl
theorem as_valueOf77 (c : Int) (w : World) : (ReflectliteValue.unpack (.iface 77 (.agg #[.int .i64 c]))).run Tryd.prog w
    = .ok (.agg #[.pointer (some ⟨1, 77, none⟩), .pointer (some ⟨w.heap.size, 0, none⟩), .int .u64 153]) (w.alloc (.cells #[.int .i64 c] 77)) := by kernel_rfl
theorem as_elemOf79 (w : World) : (Rtype.elem? 79).run Tryd.prog w = .ok (some 77) w := by kernel_rfl
theorem as_mk77 (p : Addr) (w : World) : (ReflectliteValue.mk 77 p ReflectliteValue.flagAddr).run Tryd.prog w = .ok (.agg #[.pointer (some ⟨1, 77, none⟩), .pointer (some p), .int .u64 409]) w := by kernel_rfl
theorem as_elemV79 (a p : Addr) (W : World) (ha : W.cell? a = some (.pointer (some p))) :
    (ReflectliteValue.method (ReflectliteValue.valueError "reflectlite.Value.Elem" 0) ReflectliteValue.elem #[.agg #[.pointer (some ⟨1, 79, none⟩), .pointer (some a), .int .u64 150]]).run Tryd.prog W
      = .ok (.agg #[.pointer (some ⟨1, 77, none⟩), .pointer (some p), .int .u64 409]) W := by
  rw [as_rlm]
  simp only [Sem.run_bind, as_parts79, Result.andThen]
  simp [ReflectliteValue.elem, loadVar, isAgg, underlying, Tryd.underlying79, ha, Result.andThen, as_elemOf79, as_mk77]
theorem as_rls (v x : Value) : ReflectliteValue.set #[v, x] = (do
    let (some (dst, a, fl), some (src, b, _)) := (← ReflectliteValue.parts v, ← ReflectliteValue.parts x)
      | unsupported (.noEntry "extern/(internal/reflectlite.Value).Set.zeroValue")
    if fl / ReflectliteValue.flagAddr % 2 == 0 then unsupported (.noEntry "extern/(internal/reflectlite.Value).Set.unaddressable")
    let val ← loadVar src b
    if ← Rtype.directlyAssignable dst src then storeVar dst a val
    else if ← Rtype.implements dst src then
      if (← Rtype.kind src) == 20 then
        match val with
        | .nilIface => unsupported (.noEntry "extern/reflectlite: a nil value of one interface type handed on as a value of another")
        | _ => storeVar dst a val
      else storeVar dst a (.iface src val)
    else panicString ("reflectlite.Set: value of type " ++ (← Rtype.spelt src) ++ " is not assignable to type " ++ (← Rtype.spelt dst))
    pure (.tuple #[])) := rfl
theorem as_parts77a (a : Addr) (w : World) : (ReflectliteValue.parts (.agg #[.pointer (some ⟨1, 77, none⟩), .pointer (some a), .int .u64 409])).run Tryd.prog w = .ok (some (77, a, 409)) w := by kernel_rfl
theorem as_parts77 (a : Addr) (w : World) : (ReflectliteValue.parts (.agg #[.pointer (some ⟨1, 77, none⟩), .pointer (some a), .int .u64 153])).run Tryd.prog w = .ok (some (77, a, 153)) w := by kernel_rfl
theorem as_direct77 (w : World) : (Rtype.directlyAssignable 77 77).run Tryd.prog w = .ok true w := by kernel_rfl
theorem as_load77 (b : Nat) (c : Int) (W : World) (hb : W.heap[b]? = some (.cells #[.int .i64 c] 77 (0, 0))) : (loadVar 77 ⟨b, 0, none⟩).run Tryd.prog W = .ok (.agg #[.int .i64 c]) W :=
  run_loadVar_row W b 77 77 #[.int .i64 c] (0, 0) _ hb Tryd.underlying77 rfl (by kernel_rfl)
theorem as_size77 (w : World) : (sizeOf 77).run Tryd.prog w = .ok 1 w := by kernel_rfl
theorem as_set77 (ta : Addr) (b : Nat) (c : Int) (old : Value) (W : World) (hb : W.heap[b]? = some (.cells #[.int .i64 c] 77 (0, 0))) (ht : W.cell? ta = some old) (hf : W.frozen? ta = false) :
    (ReflectliteValue.set #[.agg #[.pointer (some ⟨1, 77, none⟩), .pointer (some ta), .int .u64 409], .agg #[.pointer (some ⟨1, 77, none⟩), .pointer (some ⟨b, 0, none⟩), .int .u64 153]]).run Tryd.prog W
      = .ok (.tuple #[]) (W.setCell ta (.int .i64 c)) := by
  rw [as_rls]
  simp only [Sem.run_bind, as_parts77a, as_parts77, Result.andThen]
  simp [ReflectliteValue.flagAddr, as_load77 b c W hb, Result.andThen, as_direct77, storeVar, as_size77, Value.cells, storeCells, Addr.add]
  rw [run_store Tryd.prog W ta _ _ (by rfl)]
  simp [ht, hf]
end
section
open Go.Extern.Stop Go.Stop Go.Extern
theorem as_mA (h : Value) (w : World) : (Go.method 253 109 (.agg #[h]) "AssignableTo").run Tryd.prog w = .ok (81, .agg #[h]) w := by kernel_rfl
theorem as_mK (h : Value) (w : World) : (Go.method 253 109 (.agg #[h]) "Kind").run Tryd.prog w = .ok (72, h) w := by kernel_rfl
theorem as_mE (h : Value) (w : World) : (Go.method 253 109 (.agg #[h]) "Elem").run Tryd.prog w = .ok (83, .agg #[h]) w := by kernel_rfl
theorem as_mI (h : Value) (w : World) : (Go.method 253 109 (.agg #[h]) "Implements").run Tryd.prog w = .ok (84, .agg #[h]) w := by kernel_rfl
set_option maxHeartbeats 8000000 in
set_option maxRecDepth 100000 in
theorem as_inner (c : Int) (t a2 : Addr) (old : Value) (w : World) (hv : w.cell? a2 = some (.pointer (some t))) (ht0 : w.cell? t = some old) (hf0 : w.frozen? t = false) :
    Calls Tryd.prog 48 #[.iface 77 (.agg #[.int .i64 c]), .iface 79 (.pointer (some t)), .agg #[.pointer (some ⟨1, 79, none⟩), .pointer (some a2), .int .u64 150], .iface 109 (.agg #[.pointer (some ⟨1, 77, none⟩)])] w fun ev w' => ev = .returned (.bool true) ∧ w' = ((w.alloc (.cells #[.pointer (some ⟨1, 79, none⟩), .pointer (some a2), .int .u64 150] 93)).alloc (.cells #[.int .i64 c] 77)).setCell t (.int .i64 c) := by
  have h45 := @run_callFunc_extern Tryd.prog 45 _ (fun args => ReflectliteValue.unpack (args.getD 0 (.tuple #[]))) Tryd.func45 (by kernel_rfl) (by kernel_rfl) (by kernel_rfl) (by kernel_rfl)
  have h54 := @run_callFunc_extern Tryd.prog 54 _ ReflectliteType.typeOf Tryd.func54 (by kernel_rfl) (by kernel_rfl) (by kernel_rfl) (by kernel_rfl)
  have h81 := @run_callFunc_extern Tryd.prog 81 _ (ReflectliteType.relation "AssignableTo" ReflectliteType.assignableTo) Tryd.func81 (by kernel_rfl) (by kernel_rfl) (by kernel_rfl) (by kernel_rfl)
  have h55 := @run_callFunc_extern Tryd.prog 55 _ (ReflectliteValue.method (ReflectliteValue.valueError "reflectlite.Value.Elem" 0) ReflectliteValue.elem) Tryd.func55 (by kernel_rfl) (by kernel_rfl) (by kernel_rfl) (by kernel_rfl)
  have h56 := @run_callFunc_extern Tryd.prog 56 _ ReflectliteValue.set Tryd.func56 (by kernel_rfl) (by kernel_rfl) (by kernel_rfl) (by kernel_rfl)
  have mA := as_mA
  have tO := as_typeOf77
  have a77 := as_assignable77
  have v77 := as_valueOf77
  have htl : t.block < w.heap.size := World.block_lt_of_cell? w _ ht0
  have hvl : a2.block < w.heap.size := World.block_lt_of_cell? w _ hv
  have el := as_elemV79 a2 t (w.alloc (.cells #[.pointer (some ⟨1, 79, none⟩), .pointer (some a2), .int .u64 150] 93)) (by rw [World.cell?_alloc_lt _ _ a2 hvl]; exact hv)
  have st := as_set77 t (w.heap.size + 1) c old ((w.alloc (.cells #[.pointer (some ⟨1, 79, none⟩), .pointer (some a2), .int .u64 150] 93)).alloc (.cells #[.int .i64 c] 77))
    (by have h_ := heap_alloc_new (w.alloc (.cells #[.pointer (some ⟨1, 79, none⟩), .pointer (some a2), .int .u64 150] 93)) (.cells #[.int .i64 c] 77); rwa [show (w.alloc (.cells #[.pointer (some ⟨1, 79, none⟩), .pointer (some a2), .int .u64 150] 93)).heap.size = w.heap.size + 1 by simp] at h_)
    (by rw [World.cell?_alloc_lt _ _ t (by simp; omega), World.cell?_alloc_lt _ _ t htl]; exact ht0)
    (by rw [World.frozen?_alloc_old _ _ t (by simp; omega), World.frozen?_alloc_old _ _ t (Nat.ne_of_lt htl)]; exact hf0)
  go_enter Tryd.func48, Tryd.ntmps48
  go_wp2
  refine wp_loop_rounds 1 ?_
  rw [rounds_succ]
  go_wp2
  go_ret
  exact ⟨rfl, rfl⟩
end
section
open Go.Extern.Stop Go.Stop Go.Extern
/-- The variable errors.errorType is laid. -/
def ErrLaid (w : World) : Prop := w.cell? ⟨0, 0, none⟩ = some (.iface 109 (.agg #[.pointer (some ⟨1, 59, none⟩)]))
theorem ErrLaid.pos {w : World} (h : ErrLaid w) : 0 < w.heap.size := World.block_lt_of_cell? w _ h
theorem ErrLaid.below {w W : World} {b : Nat} (h : ErrLaid w) (hb : Below b w W) (h0 : 0 < b) : ErrLaid W := by
  have h1 : W.cell? ⟨0, 0, none⟩ = w.cell? ⟨0, 0, none⟩ := World.cell?_of_block (hb.block 0 h0)
  exact h1.trans h
set_option maxHeartbeats 8000000 in
set_option maxRecDepth 100000 in
theorem as_hit (c : Int) (t : Addr) (old : Value) (w : World) (hg : ErrLaid w) (ht0 : w.cell? t = some old) (hf0 : w.frozen? t = false) :
    Calls Tryd.prog 37 #[.iface 77 (.agg #[.int .i64 c]), .iface 79 (.pointer (some t))] w fun ev w' => ev = .returned (.bool true) ∧ ∃ wx, Below w.heap.size w wx ∧ w' = wx.setCell t (.int .i64 c) := by
  have h45 := @run_callFunc_extern Tryd.prog 45 _ (fun args => ReflectliteValue.unpack (args.getD 0 (.tuple #[]))) Tryd.func45 (by kernel_rfl) (by kernel_rfl) (by kernel_rfl) (by kernel_rfl)
  have h46 := @run_callFunc_extern Tryd.prog 46 _ (ReflectliteValue.methodAny (ReflectliteValue.valueError "reflectlite.Value.Type" 0) (fun t _ _ _ => ReflectliteType.toType t)) Tryd.func46 (by kernel_rfl) (by kernel_rfl) (by kernel_rfl) (by kernel_rfl)
  have h47 := @run_callFunc_extern Tryd.prog 47 _ (ReflectliteValue.method (ReflectliteValue.valueError "reflectlite.Value.IsNil" 0) ReflectliteValue.isNil) Tryd.func47 (by kernel_rfl) (by kernel_rfl) (by kernel_rfl) (by kernel_rfl)
  have h72 := @run_callFunc_extern Tryd.prog 72 _ (ReflectliteType.abiMethod fun t => do pure (.int .u8 (← Rtype.kind t))) Tryd.func72 (by kernel_rfl) (by kernel_rfl) (by kernel_rfl) (by kernel_rfl)
  have h83 := @run_callFunc_extern Tryd.prog 83 _ (ReflectliteType.method ReflectliteType.elem) Tryd.func83 (by kernel_rfl) (by kernel_rfl) (by kernel_rfl) (by kernel_rfl)
  have h84 := @run_callFunc_extern Tryd.prog 84 _ (ReflectliteType.relation "Implements" ReflectliteType.implements_) Tryd.func84 (by kernel_rfl) (by kernel_rfl) (by kernel_rfl) (by kernel_rfl)
  have f45 := as_valueOf79
  have f46 := as_type79
  have mK := as_mK
  have mE := as_mE
  have mI := as_mI
  have k79 := as_kind79
  have k77 := as_kind77
  have e79 := as_elem79
  have i77 := as_implements77
  have hlt := hg.pos
  have htl : t.block < w.heap.size := World.block_lt_of_cell? w _ ht0
  have n47 := as_isNil79 ⟨w.heap.size, 0, none⟩ t ((w.alloc (.cells #[.pointer (some t)] 79)).alloc (.cells #[.pointer (some ⟨1, 79, none⟩), .pointer (some ⟨w.heap.size, 0, none⟩), .int .u64 150] 93)) (by rw [World.cell?_alloc_lt _ _ ⟨w.heap.size, 0, none⟩ (by simp)]; simp)
  have hv2 : ((w.alloc (.cells #[.pointer (some t)] 79)).alloc (.cells #[.pointer (some ⟨1, 79, none⟩), .pointer (some ⟨w.heap.size, 0, none⟩), .int .u64 150] 93)).cell? ⟨w.heap.size, 0, none⟩ = some (.pointer (some t)) := by rw [World.cell?_alloc_lt _ _ ⟨w.heap.size, 0, none⟩ (by simp)]; simp
  have ht2 : ((w.alloc (.cells #[.pointer (some t)] 79)).alloc (.cells #[.pointer (some ⟨1, 79, none⟩), .pointer (some ⟨w.heap.size, 0, none⟩), .int .u64 150] 93)).cell? t = some old := by rw [World.cell?_alloc_lt _ _ t (by simp; omega), World.cell?_alloc_lt _ _ t htl]; exact ht0
  have hf2 : ((w.alloc (.cells #[.pointer (some t)] 79)).alloc (.cells #[.pointer (some ⟨1, 79, none⟩), .pointer (some ⟨w.heap.size, 0, none⟩), .int .u64 150] 93)).frozen? t = false := by rw [World.frozen?_alloc_old _ _ t (by simp; omega), World.frozen?_alloc_old _ _ t (Nat.ne_of_lt htl)]; exact hf0
  have hg2 : ((w.alloc (.cells #[.pointer (some t)] 79)).alloc (.cells #[.pointer (some ⟨1, 79, none⟩), .pointer (some ⟨w.heap.size, 0, none⟩), .int .u64 150] 93)).cell? ⟨0, 0, none⟩ = some (.iface 109 (.agg #[.pointer (some ⟨1, 59, none⟩)])) := by
    rw [World.cell?_alloc_lt _ _ ⟨0, 0, none⟩ (by simp), World.cell?_alloc_lt _ _ ⟨0, 0, none⟩ hlt]; exact hg
  have HV := Aside0.mk hv2
  have HT := Aside0.mk ht2
  have HF := Aside0.mk hf2
  have HBW := Aside0.mk (below_alloc (below_alloc (Below.refl w.heap.size w) (.cells #[.pointer (some t)] 79)) (.cells #[.pointer (some ⟨1, 79, none⟩), .pointer (some ⟨w.heap.size, 0, none⟩), .int .u64 150] 93))
  clear hv2 ht2 hf2 hg ht0 hf0 hlt htl
  go_enter Tryd.func37, Tryd.ntmps37
  go_wp2_with (first
    | (go_at_call 48; go_loud (refine (as_inner c t ⟨w.heap.size, 0, none⟩ old _ HV.out HT.out HF.out).mono ?_; rintro e w9 ⟨rfl, rfl⟩)))
  go_ret
  exact ⟨rfl, _, below_alloc (below_alloc HBW.out _) _, rfl⟩
end
set_option maxHeartbeats 8000000 in
set_option maxRecDepth 100000 in
theorem code_calls (c : Int) (w : World) (hg : ErrLaid w) : Calls Tryd.prog 25 #[.iface 77 (.agg #[.int .i64 c])] w fun e w' => e = .returned (.int .i64 c) ∧ Below w.heap.size w w' := by
  have HG := Aside0.mk hg
  have HP := Aside0.mk hg.pos
  clear hg
  go_enter Tryd.func25, Tryd.ntmps25
  go_wp2_with (first
    | ((with_reducible refine gate_dst (N := 3) rfl ?_); (try (refine gate_guard (by rfl) ?_; dsimp only)); refine box_event ?hg (N := 3) ?hd (cs := #[.int .i64 0]) (t := 77) ?hr ?_; (case hd => rfl); (case hg => rfl); (case hr => first | (go_simp; done) | (go_simp; rfl)); intro gb hg w1 hbox hb; go_loud (have HGB := Aside0.mk hg; have HB1 := Aside0.mk hb; have HBK := Aside0.mk hbox; have HG1 := Aside0.mk (HG.out.below hb HP.out); clear hb hg hbox))
    | (go_at_call 37; go_loud (refine (as_hit c ⟨gb, 0, none⟩ (.int .i64 0) _ HG1.out ((blk_cell HBK.out 0).trans rfl) (blk_frozen HBK.out 0)).mono ?_; rintro e w2 ⟨rfl, wx, hbx, rfl⟩; have HBX := Aside0.mk hbx; have HBK2 := Aside0.mk (blk_put (blk_below HBK.out hbx) 0 (.int .i64 c) rfl); have hc0 := (blk_cell HBK2.out 0).trans rfl; clear hbx)))
  go_ret
  exact ⟨rfl, (below_step HB1.out HBX.out).setCell (Nat.le_of_eq HGB.out.symm) _⟩
def split_T7 : Bool × List (List Nat × List Nat) := (true, [([], []), ([], []), ([1], [1]), ([2], [2]), ([3], [3]), ([4], [4]), ([], []), ([6], [6]), ([7], [7]), ([8], [8]), ([5, 9], [5, 9]), ([0, 10], [0, 10]), ([11], [11]), ([12], [12]), ([12], [12]), ([13, 11, 0, 1, 2, 3, 4, 5, 6, 7, 8, 9, 10, 11, 12, 13], [13]), ([14, 15, 0, 1, 2, 3, 4, 5, 6, 7, 8, 9, 10, 11, 12, 13, 14, 15], [14])])
def split_B7 : List Nat := [0, 0, 2, 6, 14, 30, 0, 64, 192, 448, 1022, 2047, 4095, 8191, 8191, 16383, 65535]
theorem split_tab7 : rtab .any (opsOf Tryd.f13 7) = split_T7 := by kernel_rfl
theorem split_bits7 : waitsOk split_T7.2 split_B7 = true := by kernel_rfl
def lenAt (W : World) (g : Nat) : Nat := match W.cell? ⟨g, 0, none⟩ with | some (.slice _ n _) => n | _ => 0
theorem lenAt_is {w0 W : World} {g : Nat} {l : List Int} (h : Sc w0 W g l) : lenAt W g = l.length := by
  obtain ⟨_, _, _, A, c, h4, _⟩ := h
  unfold lenAt
  rw [show W.cell? ⟨g, 0, none⟩ = some (.slice A l.length c) from (blk_cell h4 0).trans rfl]
theorem Sc.cellq {w0 W : World} {g : Nat} {l : List Int} (h : Sc w0 W g l) : ∃ A c, W.cell? ⟨g, 0, none⟩ = some (.slice A l.length c) := by
  obtain ⟨_, _, _, A, c, h4, _⟩ := h
  exact ⟨A, c, (blk_cell h4 0).trans rfl⟩
def splitR (q : List (List Int) × Option Int) : List (List Int) × Int := match q.2 with | some c => ([], c) | none => if 4096 < q.1.length then ([], 3) else (q.1, 0)
theorem kept_below {W W1 W2 : World} {g : Nat} (h : Kept W W1 (fun k => k = g)) (hb : Below W.heap.size W1 W2) : Kept W W2 (fun k => k = g) := ⟨Nat.le_trans h.1 hb.size, fun i hi hne => (hb.block i hi).trans (h.2 i hi hne)⟩
set_option maxHeartbeats 8000000 in
set_option maxRecDepth 100000 in
theorem split_main (A0 : Option Addr) (c0 : Nat) (l : List Int) (w : World) (hg : ErrLaid w) (hr0 : Kd.C (Kd.int .u8) w A0 l.length l) (hc0 : l.length ≤ c0) (ho : oct5 l = true) (hm : l.length ≤ 2097152) (RR : List (List Int) × Option Int) (hR : splitF (l.length + 1) [] l = RR) :
    Calls Tryd.prog 13 #[.slice A0 l.length c0] w fun e w' => ∃ v0_ : Value, e = .returned (.tuple #[v0_, .int .i64 (splitR RR).2]) ∧ Kd.S (Kd.slice 5 (Kd.int .u8)) 23 w' w.heap.size (fun _ => True) v0_ (splitR RR).1 ∧ Below w.heap.size w w' := by
  have HGL := Aside0.mk hg
  have HP := Aside0.mk hg.pos
  have HR0 := Aside0.mk hr0
  have HC0 := Aside0.mk hc0
  have HO := Aside0.mk ho
  have HM := Aside0.mk hm
  have HRR := Aside0.mk hR
  clear hg hr0 hc0 ho hm hR
  go_enter Tryd.func13, Tryd.ntmps13
  go_wp2_with (first
    | ((with_reducible refine gate_dst (N := 11) rfl ?_); (try (refine gate_guard (by rfl) ?_; dsimp only)); refine box_event ?hg (N := 11) ?hd (cs := #[.slice A0 l.length c0]) (t := 57) ?hr ?_; (case hd => rfl); (case hg => rfl); (case hr => first | (go_simp; done) | (go_simp; rfl)); intro gs hg w1 hbox hb; go_loud (have HGS := Aside0.mk hg; have HSC := Aside0.mk (Sc.mk (w0 := w) (W := w1) (g := gs) (l := l) (Nat.le_of_eq hg.symm) hb HO.out ⟨A0, c0, hbox, HC0.out, HR0.out⟩); have HB1 := Aside0.mk hb; clear hb hg hbox)))
  have HGB := Aside0.mk HSC.out.lt
  go_loopw [4] (fun v4 W1 => ∃ (f : Nat) (acc : List (List Int)) (l2 : List Int), Aside0 (l2.length < f ∧ acc.length + l2.length ≤ 2097152) ∧ Aside0 (splitF f acc l2 = RR) ∧ Aside0 (Kd.S (Kd.slice 5 (Kd.int .u8)) 23 W1 w1.heap.size (fun k => w1.heap.size ≤ k) v4 acc) ∧ Aside0 (Sc w W1 gs l2) ∧ Aside0 (Kept w1 W1 (fun k => k = gs))) (fun _ W1 => lenAt W1 gs)
  case atStart => exact ⟨l.length + 1, [], l, ⟨by have := HM.out; simp; omega⟩, HRR, ⟨Kd.S_nil _ _ _ _ _⟩, HSC, ⟨Kept.refl _ _⟩⟩
  case round =>
    obtain ⟨f, acc, l2, HF, HR, HOUT, HS, HK⟩ := hrel
    clear HRR HSC
    obtain ⟨A, c, hq⟩ := HS.out.cellq
    cases l2 with
    | nil =>
      have hR : RR = (acc, none) := by
        rw [← HR.out]
        cases f with
        | zero => rfl
        | succ f => rfl
      subst hR
      have hd0 : decide ((0 : Int) < ((([] : List Int).length : Nat) : Int)) = false := by decide
      simp only [List.length_nil] at hq
      by_cases hbig : 4096 < acc.length
      · have hp : ((4096 : Int) < (acc.length : Int)) = True := eq_true (by omega)
        have hp2 : (4096 < acc.length) = True := eq_true hbig
        have hsr : splitR (acc, none) = ([], 3) := by unfold splitR; rw [if_pos hbig]
        obtain ⟨Do, co, rfl⟩ := Kd.S_slice HOUT.out
        clear hbig
        go_wp2
        go_ret2
        rw [hsr]
        exact ⟨_, rfl, Kd.S_nil _ _ _ _ _, HS.out.below⟩
      · have hp : ((4096 : Int) < (acc.length : Int)) = False := eq_false (by omega)
        have hp2 : (4096 < acc.length) = False := eq_false hbig
        have hsr : splitR (acc, none) = (acc, 0) := by unfold splitR; rw [if_neg hbig]
        obtain ⟨Do, co, rfl⟩ := Kd.S_slice HOUT.out
        clear hbig
        go_wp2
        go_ret2
        rw [hsr]
        exact ⟨_, rfl, Kd.S_mono (Kd.S_lower HOUT.out HB1.out.size) (fun _ _ => trivial), HS.out.below⟩
    | cons x s =>
      have hf0 : f = (f - 1) + 1 := by have := HF.out; omega
      obtain ⟨F, hF⟩ : ∃ F, F = f - 1 := ⟨_, rfl⟩
      rw [← hF] at hf0
      subst hf0
      have hpl : ((0 : Int) < (((x :: s).length : Nat) : Int)) = True := eq_true (by simp only [List.length_cons]; omega)
      have hdl : decide ((0 : Int) < (((x :: s).length : Nat) : Int)) = true := decide_eq_true (by simp only [List.length_cons]; omega)
      have hpl2 : (0 < (x :: s).length) = True := eq_true (by simp only [List.length_cons]; omega)
      cases s with
      | nil =>
        have hR : RR = ([], some 8) := HR.out.symm
        subst hR
        have hsr : splitR ([], some 8) = ([], 8) := rfl
        go_wp2_with (first
          | (go_at_call 24; go_loud (refine (take2_bad w _ gs x HS.out).mono ?_; rintro e w2 ⟨A2, c2, rfl, h1, h2⟩; have HS2 := Aside0.mk h1; clear h1 h2))
          | (go_at_call 25; go_loud (refine (code_calls 8 _ (HGL.out.below HS2.out.below HP.out)).mono ?_; rintro e w3 ⟨rfl, hb3⟩; have HB3 := Aside0.mk (below_step HS2.out.below hb3); clear hb3)))
        go_ret2
        exact ⟨_, rfl, Kd.S_nil _ _ _ _ _, HB3.out⟩
      | cons y r =>
        have hoc := HS.out.oct
        obtain ⟨a, rfl⟩ : ∃ a : Nat, x = (a : Int) := ⟨x.toNat, by have := oct5_at hoc (List.mem_cons_self (a := x)); omega⟩
        obtain ⟨b, rfl⟩ : ∃ b : Nat, y = (b : Int) := ⟨y.toNat, by have := oct5_at hoc (List.mem_cons_of_mem _ (List.mem_cons_self (a := y))); omega⟩
        have ha : a < 256 := by have := oct5_at hoc (List.mem_cons_self (a := (a : Int))); omega
        have hb : b < 256 := by have := oct5_at hoc (List.mem_cons_of_mem (a : Int) (List.mem_cons_self (a := (b : Int)))); omega
        obtain ⟨n, hn⟩ : ∃ n : Nat, n = a * 256 + b := ⟨_, rfl⟩
        have hnI : (n : Int) = (a : Int) * 256 + (b : Int) := by omega
        have hw1 : wrap64 (a : Int) = (a : Int) := by unfold wrap64; omega
        have hw2 : wrap64 (b : Int) = (b : Int) := by unfold wrap64; omega
        have hw3 : wrap64 ((a : Int) * 256) = (a : Int) * 256 := by unfold wrap64; omega
        have hor : bits BinOp.or IntKind.i64 ((a : Int) * 256) (b : Int) = (n : Int) := by
          have h_ := or_split a ha b hb
          rw [show ((a * 256 : Nat) : Int) = (a : Int) * 256 by omega] at h_
          rw [h_, hn]
        have HN := Aside0.mk (show n ≤ 1099511627776 by omega)
        have HNI := Aside0.mk hnI
        clear hoc ha hb hn hnI
        rcases ht : takeI n r with ⟨⟨y5, er⟩, r5⟩
        have HT := Aside0.mk ht
        by_cases hlt : r.length < n
        · have he : takeI n r = (([], some 8), r) := by unfold takeI; rw [if_pos hlt]
          rw [he] at ht
          cases ht
          have hR : RR = ([], some 8) := HR.out.symm.trans (splitF_short HNI.out hlt)
          subst hR
          have hsr : splitR ([], some 8) = ([], 8) := rfl
          clear hlt he
          go_wp2_with (first
            | (go_at_call 24; go_loud (refine (take2_good w _ gs (a : Int) (b : Int) r HS.out).mono ?_; rintro e wr2 ⟨ad, c2, rfl, hab, h1, h2⟩; have HS2 := Aside0.mk h1; have HAB := Aside0.mk hab; have HK2 := Aside0.mk (HK.out.then_ h2 (fun _ h_ => .inl h_)); clear h1 h2 hab)))
          refine start_ (n := 17) (S := fun w' => w'.cell? ad = some (.int .u8 (a : Int)) ∧ w'.cell? ⟨ad.block, ad.off + 1, none⟩ = some (.int .u8 (b : Int))) (ds := []) #[false, false, false, false, false, false, false, false, false, false, false, false, false, false, false, false, false] (by kernel_rfl) rfl rfl (HAB.out wr2 (HS2.out.below)) (fun hHeld => ?_); refine with_tabW split_tab7 split_bits7 (fun HT_ HW_ => ?_)
          refine pure_ (i := 0) (N := some 28) (v := ?_) (a' := ?_) #[true, false, false, false, false, false, false, false, false, false, false, false, false, false, false, false, false] rfl rfl (any_of HT_.out (by kernel_rfl)) (fun _ _ _ h => h) (Or.inl ⟨by rfl, ?_⟩) ?_ ?_
          rotate_left
          · intro w'
            go_simp
            with_reducible rfl
          rotate_left
          · simp only [Act.put, List.setIfInBounds_toArray, List.set_cons_zero, List.set_cons_succ, i64_w, i32_w]
            rfl
          refine pure_ (i := 1) (N := some 29) (v := ?_) (a' := ?_) #[true, true, false, false, false, false, false, false, false, false, false, false, false, false, false, false, false] rfl rfl (any_of HT_.out (by kernel_rfl)) (fun _ _ _ h => h) (Or.inl ⟨by rfl, ?_⟩) ?_ ?_
          rotate_left
          · intro w'
            go_simp
            with_reducible rfl
          rotate_left
          · simp only [Act.put, List.setIfInBounds_toArray, List.set_cons_zero, List.set_cons_succ, i64_w, i32_w]
            rfl
          refine pure_ (i := 2) (N := some 30) (v := ?_) (a' := ?_) #[true, true, true, false, false, false, false, false, false, false, false, false, false, false, false, false, false] rfl rfl (any_of HT_.out (by kernel_rfl)) (fun _ _ _ h => h) (Or.inl ⟨by rfl, ?_⟩) ?_ ?_
          rotate_left
          · intro w'
            go_simp
            with_reducible rfl
          rotate_left
          · simp only [Act.put, List.setIfInBounds_toArray, List.set_cons_zero, List.set_cons_succ, i64_w, i32_w]
            rfl
          refine take_ (i := 3) (N := some 31) (v := ?_) (a' := ?_) #[true, true, true, true, false, false, false, false, false, false, false, false, false, false, false, false, false] rfl rfl (take_ofW HT_.out HW_.out (by kernel_rfl)) (fun _ _ _ h => h) (Or.inl ⟨by rfl, ?_⟩) hHeld ?_ ?_
          rotate_left
          · rintro w' ⟨s0, s1⟩
            go_simp
            with_reducible rfl
          rotate_left
          · simp only [Act.put, List.setIfInBounds_toArray, List.set_cons_zero, List.set_cons_succ, i64_w, i32_w]
            rfl
          refine pure_ (i := 4) (N := some 32) (v := ?_) (a' := ?_) #[true, true, true, true, true, false, false, false, false, false, false, false, false, false, false, false, false] rfl rfl (any_of HT_.out (by kernel_rfl)) (fun _ _ _ h => h) (Or.inl ⟨by rfl, ?_⟩) ?_ ?_
          rotate_left
          · intro w'
            go_simp
            with_reducible rfl
          rotate_left
          · simp only [Act.put, List.setIfInBounds_toArray, List.set_cons_zero, List.set_cons_succ, i64_w, i32_w]
            rfl
          refine pure_ (i := 5) (N := some 33) (v := ?_) (a' := ?_) #[true, true, true, true, true, true, false, false, false, false, false, false, false, false, false, false, false] rfl rfl (any_of HT_.out (by kernel_rfl)) (fun _ _ _ h => h) (Or.inl ⟨by rfl, ?_⟩) ?_ ?_
          rotate_left
          · intro w'
            go_simp
            with_reducible rfl
          rotate_left
          · simp only [Act.put, List.setIfInBounds_toArray, List.set_cons_zero, List.set_cons_succ, i64_w, i32_w]
            rfl
          refine pure_ (i := 6) (N := some 34) (v := ?_) (a' := ?_) #[true, true, true, true, true, true, true, false, false, false, false, false, false, false, false, false, false] rfl rfl (any_of HT_.out (by kernel_rfl)) (fun _ _ _ h => h) (Or.inl ⟨by rfl, ?_⟩) ?_ ?_
          rotate_left
          · intro w'
            go_simp
            with_reducible rfl
          rotate_left
          · simp only [Act.put, List.setIfInBounds_toArray, List.set_cons_zero, List.set_cons_succ, i64_w, i32_w]
            rfl
          refine pure_ (i := 7) (N := some 35) (v := ?_) (a' := ?_) #[true, true, true, true, true, true, true, true, false, false, false, false, false, false, false, false, false] rfl rfl (any_of HT_.out (by kernel_rfl)) (fun _ _ _ h => h) (Or.inl ⟨by rfl, ?_⟩) ?_ ?_
          rotate_left
          · intro w'
            go_simp
            with_reducible rfl
          rotate_left
          · simp only [Act.put, List.setIfInBounds_toArray, List.set_cons_zero, List.set_cons_succ, i64_w, i32_w]
            rfl
          refine take_ (i := 8) (N := some 36) (v := ?_) (a' := ?_) #[true, true, true, true, true, true, true, true, true, false, false, false, false, false, false, false, false] rfl rfl (take_ofW HT_.out HW_.out (by kernel_rfl)) (fun _ _ _ h => h) (Or.inl ⟨by rfl, ?_⟩) hHeld ?_ ?_
          rotate_left
          · rintro w' ⟨s0, s1⟩
            go_simp
            with_reducible rfl
          rotate_left
          · simp only [Act.put, List.setIfInBounds_toArray, List.set_cons_zero, List.set_cons_succ, i64_w, i32_w]
            rfl
          refine pure_ (i := 9) (N := some 37) (v := ?_) (a' := ?_) #[true, true, true, true, true, true, true, true, true, true, false, false, false, false, false, false, false] rfl rfl (any_of HT_.out (by kernel_rfl)) (fun _ _ _ h => h) (Or.inl ⟨by rfl, ?_⟩) ?_ ?_
          rotate_left
          · intro w'
            go_simp
            with_reducible rfl
          rotate_left
          · simp only [Act.put, List.setIfInBounds_toArray, List.set_cons_zero, List.set_cons_succ, i64_w, i32_w]
            rfl
          refine pure_ (i := 10) (N := some 38) (v := ?_) (a' := ?_) #[true, true, true, true, true, true, true, true, true, true, true, false, false, false, false, false, false] rfl rfl (any_of HT_.out (by kernel_rfl)) (fun _ _ _ h => h) (Or.inl ⟨by rfl, ?_⟩) ?_ ?_
          rotate_left
          · intro w'
            go_simp
            with_reducible rfl
          rotate_left
          · simp only [Act.put, List.setIfInBounds_toArray, List.set_cons_zero, List.set_cons_succ, i64_w, i32_w]
            rfl
          refine one_ (i := 11) (N := some 39) #[true, true, true, true, true, true, true, true, true, true, true, true, false, false, false, false, false] rfl rfl (one_of HT_.out (by kernel_rfl)) (by decide) (fun K hK => ?_)
          refine goes_ Tryd.func24 (by kernel_rfl) rfl #[.pointer (some ⟨gs, 0, none⟩), .int .i64 (n : Int)] (by rfl) rfl rfl (by (try simp only [List.map_toArray, List.map_cons, List.map_nil]); first | done | rfl) ?_
          refine (take_at (HS2.out.moved (below_drew1 (Below.refl _ _))) HN.out HT.out).mono ?_
          rintro e_ w5 ⟨A5, c5, rfl, hc5, hC5, h1, h2⟩
          refine ⟨_, rfl, ?_⟩
          have HS5 := Aside0.mk h1
          have HC5 := Aside0.mk hC5
          have HCC5 := Aside0.mk hc5
          have HK5 := Aside0.mk (HK2.out.then_ ((Kept.of_below (below_drew1 (Below.refl _ _)) (fun k => k = gs)).then_ h2 (fun _ h_ => .inl h_)) (fun _ h_ => .inl h_))
          clear h1 h2 hC5 hc5
          refine hK.out _ _ (HAB.out _ HS5.out.below) (fun hHeld => ?_)
          clear hK K
          refine norm_ (a' := ?_) ?_ ?_
          rotate_left
          · show Act.put _ (some 39) _ = _
            simp only [Act.put, List.setIfInBounds_toArray, List.set_cons_zero, List.set_cons_succ, i64_w, i32_w]
            rfl
          simp only [errF_some]
          refine pure_ (i := 12) (N := some 27) (v := ?_) (a' := ?_) #[true, true, true, true, true, true, true, true, true, true, true, true, true, false, false, false, false] rfl rfl (any_of HT_.out (by kernel_rfl)) (fun _ _ _ h => h) (Or.inl ⟨by rfl, ?_⟩) ?_ ?_
          rotate_left
          · intro w'
            go_simp
            with_reducible rfl
          rotate_left
          · simp only [Act.put, List.setIfInBounds_toArray, List.set_cons_zero, List.set_cons_succ, i64_w, i32_w]
            rfl
          refine pure_ (i := 13) (N := some 40) (v := ?_) (a' := ?_) #[true, true, true, true, true, true, true, true, true, true, true, true, true, true, false, false, false] rfl rfl (any_of HT_.out (by kernel_rfl)) (fun _ _ _ h => h) (Or.inl ⟨by rfl, ?_⟩) ?_ ?_
          rotate_left
          · intro w'
            go_simp
            with_reducible rfl
          rotate_left
          · simp only [Act.put, List.setIfInBounds_toArray, List.set_cons_zero, List.set_cons_succ, i64_w, i32_w]
            rfl
          refine pure_ (i := 14) (N := some 41) (v := ?_) (a' := ?_) #[true, true, true, true, true, true, true, true, true, true, true, true, true, true, true, false, false] rfl rfl (any_of HT_.out (by kernel_rfl)) (fun _ _ _ h => h) (Or.inl ⟨by rfl, ?_⟩) ?_ ?_
          rotate_left
          · intro w'
            go_simp
            with_reducible rfl
          rotate_left
          · simp only [Act.put, List.setIfInBounds_toArray, List.set_cons_zero, List.set_cons_succ, i64_w, i32_w]
            rfl
          refine pure_ (i := 15) (N := some 8) (v := ?_) (a' := ?_) #[true, true, true, true, true, true, true, true, true, true, true, true, true, true, true, true, false] rfl rfl (any_of HT_.out (by kernel_rfl)) (fun _ _ _ h => h) (Or.inl ⟨by rfl, ?_⟩) ?_ ?_
          rotate_left
          · intro w'
            go_simp
            with_reducible rfl
          rotate_left
          · simp only [Act.put, List.setIfInBounds_toArray, List.set_cons_zero, List.set_cons_succ, i64_w, i32_w]
            rfl
          refine pure_ (i := 16) (N := some 7) (v := ?_) (a' := ?_) #[true, true, true, true, true, true, true, true, true, true, true, true, true, true, true, true, true] rfl rfl (any_of HT_.out (by kernel_rfl)) (fun _ _ _ h => h) (Or.inl ⟨by rfl, ?_⟩) ?_ ?_
          rotate_left
          · intro w'
            go_simp
            with_reducible rfl
          rotate_left
          · simp only [Act.put, List.setIfInBounds_toArray, List.set_cons_zero, List.set_cons_succ, i64_w, i32_w]
            rfl
          refine done_ (done_of HT_.out (by kernel_rfl)) ?_
          go_wp2_with (first
            | (go_at_call 25; go_loud (refine (code_calls 8 _ (HGL.out.below HS5.out.below HP.out)).mono ?_; rintro e w6 ⟨rfl, hb6⟩; have HB6 := Aside0.mk (below_step HS5.out.below hb6); clear hb6)))
          go_ret2
          exact ⟨_, rfl, Kd.S_nil _ _ _ _ _, HB6.out⟩
        · have he : takeI n r = ((r.take n, none), r.drop n) := by unfold takeI; rw [if_neg hlt]
          rw [he] at ht
          cases ht
          have hR2 := (splitF_step HNI.out hlt).symm.trans HR.out
          have HR2 := Aside0.mk hR2
          have hlen1 : (r.take n).length = n := by rw [List.length_take]; omega
          have hlen2 : (r.drop n).length = r.length - n := List.length_drop
          have HLL := Aside0.mk (show (r.drop n).length < F ∧ (acc ++ [r.take n]).length + (r.drop n).length ≤ 2097152 by have h_ := HF.out; simp only [List.length_cons] at h_; rw [List.length_append, List.length_singleton]; omega)
          have HLS := Aside0.mk (show (r.drop n).length < ((a : Int) :: (b : Int) :: r).length by simp only [List.length_cons]; omega)
          have HLEN := Aside0.mk (show (acc.length + 1) * 24 ≤ 140737488355328 by have h_ := HF.out; omega)
          have HCL := Aside0.mk (show bytes_Clone.f (r.take n) = some (r.take n) by unfold bytes_Clone.f; rw [if_pos (by have h_ := HF.out; simp only [List.length_cons] at h_; omega)])
          have HLA := Aside0.mk (lenAt_is HS.out)
          clear hlt he hR2 hlen1 hlen2 HR
          generalize r.take n = tk at *
          generalize r.drop n = dr at *
          go_wp2_with (first
            | (go_at_call 24; go_loud (refine (take2_good w _ gs (a : Int) (b : Int) r HS.out).mono ?_; rintro e wr2 ⟨ad, c2, rfl, hab, h1, h2⟩; have HS2 := Aside0.mk h1; have HAB := Aside0.mk hab; have HK2 := Aside0.mk (HK.out.then_ h2 (fun _ h_ => .inl h_)); have HKR2 := Aside0.mk h2; clear h1 h2 hab)))
          refine start_ (n := 17) (S := fun w' => w'.cell? ad = some (.int .u8 (a : Int)) ∧ w'.cell? ⟨ad.block, ad.off + 1, none⟩ = some (.int .u8 (b : Int))) (ds := []) #[false, false, false, false, false, false, false, false, false, false, false, false, false, false, false, false, false] (by kernel_rfl) rfl rfl (HAB.out wr2 (HS2.out.below)) (fun hHeld => ?_); refine with_tabW split_tab7 split_bits7 (fun HT_ HW_ => ?_)
          refine pure_ (i := 0) (N := some 28) (v := ?_) (a' := ?_) #[true, false, false, false, false, false, false, false, false, false, false, false, false, false, false, false, false] rfl rfl (any_of HT_.out (by kernel_rfl)) (fun _ _ _ h => h) (Or.inl ⟨by rfl, ?_⟩) ?_ ?_
          rotate_left
          · intro w'
            go_simp
            with_reducible rfl
          rotate_left
          · simp only [Act.put, List.setIfInBounds_toArray, List.set_cons_zero, List.set_cons_succ, i64_w, i32_w]
            rfl
          refine pure_ (i := 1) (N := some 29) (v := ?_) (a' := ?_) #[true, true, false, false, false, false, false, false, false, false, false, false, false, false, false, false, false] rfl rfl (any_of HT_.out (by kernel_rfl)) (fun _ _ _ h => h) (Or.inl ⟨by rfl, ?_⟩) ?_ ?_
          rotate_left
          · intro w'
            go_simp
            with_reducible rfl
          rotate_left
          · simp only [Act.put, List.setIfInBounds_toArray, List.set_cons_zero, List.set_cons_succ, i64_w, i32_w]
            rfl
          refine pure_ (i := 2) (N := some 30) (v := ?_) (a' := ?_) #[true, true, true, false, false, false, false, false, false, false, false, false, false, false, false, false, false] rfl rfl (any_of HT_.out (by kernel_rfl)) (fun _ _ _ h => h) (Or.inl ⟨by rfl, ?_⟩) ?_ ?_
          rotate_left
          · intro w'
            go_simp
            with_reducible rfl
          rotate_left
          · simp only [Act.put, List.setIfInBounds_toArray, List.set_cons_zero, List.set_cons_succ, i64_w, i32_w]
            rfl
          refine take_ (i := 3) (N := some 31) (v := ?_) (a' := ?_) #[true, true, true, true, false, false, false, false, false, false, false, false, false, false, false, false, false] rfl rfl (take_ofW HT_.out HW_.out (by kernel_rfl)) (fun _ _ _ h => h) (Or.inl ⟨by rfl, ?_⟩) hHeld ?_ ?_
          rotate_left
          · rintro w' ⟨s0, s1⟩
            go_simp
            with_reducible rfl
          rotate_left
          · simp only [Act.put, List.setIfInBounds_toArray, List.set_cons_zero, List.set_cons_succ, i64_w, i32_w]
            rfl
          refine pure_ (i := 4) (N := some 32) (v := ?_) (a' := ?_) #[true, true, true, true, true, false, false, false, false, false, false, false, false, false, false, false, false] rfl rfl (any_of HT_.out (by kernel_rfl)) (fun _ _ _ h => h) (Or.inl ⟨by rfl, ?_⟩) ?_ ?_
          rotate_left
          · intro w'
            go_simp
            with_reducible rfl
          rotate_left
          · simp only [Act.put, List.setIfInBounds_toArray, List.set_cons_zero, List.set_cons_succ, i64_w, i32_w]
            rfl
          refine pure_ (i := 5) (N := some 33) (v := ?_) (a' := ?_) #[true, true, true, true, true, true, false, false, false, false, false, false, false, false, false, false, false] rfl rfl (any_of HT_.out (by kernel_rfl)) (fun _ _ _ h => h) (Or.inl ⟨by rfl, ?_⟩) ?_ ?_
          rotate_left
          · intro w'
            go_simp
            with_reducible rfl
          rotate_left
          · simp only [Act.put, List.setIfInBounds_toArray, List.set_cons_zero, List.set_cons_succ, i64_w, i32_w]
            rfl
          refine pure_ (i := 6) (N := some 34) (v := ?_) (a' := ?_) #[true, true, true, true, true, true, true, false, false, false, false, false, false, false, false, false, false] rfl rfl (any_of HT_.out (by kernel_rfl)) (fun _ _ _ h => h) (Or.inl ⟨by rfl, ?_⟩) ?_ ?_
          rotate_left
          · intro w'
            go_simp
            with_reducible rfl
          rotate_left
          · simp only [Act.put, List.setIfInBounds_toArray, List.set_cons_zero, List.set_cons_succ, i64_w, i32_w]
            rfl
          refine pure_ (i := 7) (N := some 35) (v := ?_) (a' := ?_) #[true, true, true, true, true, true, true, true, false, false, false, false, false, false, false, false, false] rfl rfl (any_of HT_.out (by kernel_rfl)) (fun _ _ _ h => h) (Or.inl ⟨by rfl, ?_⟩) ?_ ?_
          rotate_left
          · intro w'
            go_simp
            with_reducible rfl
          rotate_left
          · simp only [Act.put, List.setIfInBounds_toArray, List.set_cons_zero, List.set_cons_succ, i64_w, i32_w]
            rfl
          refine take_ (i := 8) (N := some 36) (v := ?_) (a' := ?_) #[true, true, true, true, true, true, true, true, true, false, false, false, false, false, false, false, false] rfl rfl (take_ofW HT_.out HW_.out (by kernel_rfl)) (fun _ _ _ h => h) (Or.inl ⟨by rfl, ?_⟩) hHeld ?_ ?_
          rotate_left
          · rintro w' ⟨s0, s1⟩
            go_simp
            with_reducible rfl
          rotate_left
          · simp only [Act.put, List.setIfInBounds_toArray, List.set_cons_zero, List.set_cons_succ, i64_w, i32_w]
            rfl
          refine pure_ (i := 9) (N := some 37) (v := ?_) (a' := ?_) #[true, true, true, true, true, true, true, true, true, true, false, false, false, false, false, false, false] rfl rfl (any_of HT_.out (by kernel_rfl)) (fun _ _ _ h => h) (Or.inl ⟨by rfl, ?_⟩) ?_ ?_
          rotate_left
          · intro w'
            go_simp
            with_reducible rfl
          rotate_left
          · simp only [Act.put, List.setIfInBounds_toArray, List.set_cons_zero, List.set_cons_succ, i64_w, i32_w]
            rfl
          refine pure_ (i := 10) (N := some 38) (v := ?_) (a' := ?_) #[true, true, true, true, true, true, true, true, true, true, true, false, false, false, false, false, false] rfl rfl (any_of HT_.out (by kernel_rfl)) (fun _ _ _ h => h) (Or.inl ⟨by rfl, ?_⟩) ?_ ?_
          rotate_left
          · intro w'
            go_simp
            with_reducible rfl
          rotate_left
          · simp only [Act.put, List.setIfInBounds_toArray, List.set_cons_zero, List.set_cons_succ, i64_w, i32_w]
            rfl
          refine one_ (i := 11) (N := some 39) #[true, true, true, true, true, true, true, true, true, true, true, true, false, false, false, false, false] rfl rfl (one_of HT_.out (by kernel_rfl)) (by decide) (fun K hK => ?_)
          refine goes_ Tryd.func24 (by kernel_rfl) rfl #[.pointer (some ⟨gs, 0, none⟩), .int .i64 (n : Int)] (by rfl) rfl rfl (by (try simp only [List.map_toArray, List.map_cons, List.map_nil]); first | done | rfl) ?_
          refine (take_at (HS2.out.moved (below_drew1 (Below.refl _ _))) HN.out HT.out).mono ?_
          rintro e_ w5 ⟨A5, c5, rfl, hc5, hC5, h1, h2⟩
          refine ⟨_, rfl, ?_⟩
          have HS5 := Aside0.mk h1
          have HC5 := Aside0.mk hC5
          have HCC5 := Aside0.mk hc5
          have HK5 := Aside0.mk (HK2.out.then_ ((Kept.of_below (below_drew1 (Below.refl _ _)) (fun k => k = gs)).then_ h2 (fun _ h_ => .inl h_)) (fun _ h_ => .inl h_))
          have HKA := Aside0.mk (HKR2.out.then_ ((Kept.of_below (below_drew1 (Below.refl _ _)) (fun k => k = gs)).then_ h2 (fun _ h_ => .inl h_)) (fun _ h_ => .inl h_))
          clear h1 h2 hC5 hc5
          refine hK.out _ _ (HAB.out _ HS5.out.below) (fun hHeld => ?_)
          clear hK K
          refine norm_ (a' := ?_) ?_ ?_
          rotate_left
          · show Act.put _ (some 39) _ = _
            simp only [Act.put, List.setIfInBounds_toArray, List.set_cons_zero, List.set_cons_succ, i64_w, i32_w]
            rfl
          simp only [errF_none]
          refine pure_ (i := 12) (N := some 27) (v := ?_) (a' := ?_) #[true, true, true, true, true, true, true, true, true, true, true, true, true, false, false, false, false] rfl rfl (any_of HT_.out (by kernel_rfl)) (fun _ _ _ h => h) (Or.inl ⟨by rfl, ?_⟩) ?_ ?_
          rotate_left
          · intro w'
            go_simp
            with_reducible rfl
          rotate_left
          · simp only [Act.put, List.setIfInBounds_toArray, List.set_cons_zero, List.set_cons_succ, i64_w, i32_w]
            rfl
          refine pure_ (i := 13) (N := some 40) (v := ?_) (a' := ?_) #[true, true, true, true, true, true, true, true, true, true, true, true, true, true, false, false, false] rfl rfl (any_of HT_.out (by kernel_rfl)) (fun _ _ _ h => h) (Or.inl ⟨by rfl, ?_⟩) ?_ ?_
          rotate_left
          · intro w'
            go_simp
            with_reducible rfl
          rotate_left
          · simp only [Act.put, List.setIfInBounds_toArray, List.set_cons_zero, List.set_cons_succ, i64_w, i32_w]
            rfl
          refine pure_ (i := 14) (N := some 41) (v := ?_) (a' := ?_) #[true, true, true, true, true, true, true, true, true, true, true, true, true, true, true, false, false] rfl rfl (any_of HT_.out (by kernel_rfl)) (fun _ _ _ h => h) (Or.inl ⟨by rfl, ?_⟩) ?_ ?_
          rotate_left
          · intro w'
            go_simp
            with_reducible rfl
          rotate_left
          · simp only [Act.put, List.setIfInBounds_toArray, List.set_cons_zero, List.set_cons_succ, i64_w, i32_w]
            rfl
          refine pure_ (i := 15) (N := some 8) (v := ?_) (a' := ?_) #[true, true, true, true, true, true, true, true, true, true, true, true, true, true, true, true, false] rfl rfl (any_of HT_.out (by kernel_rfl)) (fun _ _ _ h => h) (Or.inl ⟨by rfl, ?_⟩) ?_ ?_
          rotate_left
          · intro w'
            go_simp
            with_reducible rfl
          rotate_left
          · simp only [Act.put, List.setIfInBounds_toArray, List.set_cons_zero, List.set_cons_succ, i64_w, i32_w]
            rfl
          refine pure_ (i := 16) (N := some 7) (v := ?_) (a' := ?_) #[true, true, true, true, true, true, true, true, true, true, true, true, true, true, true, true, true] rfl rfl (any_of HT_.out (by kernel_rfl)) (fun _ _ _ h => h) (Or.inl ⟨by rfl, ?_⟩) ?_ ?_
          rotate_left
          · intro w'
            go_simp
            with_reducible rfl
          rotate_left
          · simp only [Act.put, List.setIfInBounds_toArray, List.set_cons_zero, List.set_cons_succ, i64_w, i32_w]
            rfl
          refine done_ (done_of HT_.out (by kernel_rfl)) ?_
          have HO5 := Aside0.mk (Kd.S_mono (ok' := fun k => w1.heap.size ≤ k ∧ k < wr.heap.size) (Kd.S_kept (Kd.S_bound HOUT.out) HKA.out (fun k_ h1_ h2_ => by have h3_ := HGB.out; have h4_ := h1_.1; omega)) (fun k h => ⟨h.1, h.2.2.1⟩))
          have HZ5 := Aside0.mk HKA.out.1
          go_wp2_with (first
            | (go_at_call 26; go_loud (refine (bytes_Clone.calls A5 c5 tk tk _ (Kd.C_below HC5.out HS5.out.below) HCC5.out HCL.out).mono ?_; rintro e w6 ⟨v6, rfl, ho, hb⟩; obtain ⟨A6, c6, rfl⟩ := Kd.R_slice ho; have HT6 := Aside0.mk ho; have HO6 := Aside0.mk (Kd.S_below HO5.out hb); have HS6 := Aside0.mk (HS5.out.moved hb); have HK6 := Aside0.mk (kept_below HK5.out (Below.mono hb HK5.out.1)); have HZ6 := Aside0.mk hb.size; clear ho hb))
            | ((with_reducible refine gate_builtin (b := .append) (xs := #[.tmp 46, .tmp 49]) rfl ?_); at_builtin; go_loud (refine Kd.S_append (Kd.slice 5 (Kd.int .u8)) (w0 := w6) w1.heap.size rfl (.tmp 46) (.tmp 49) 22 23 (.slice none 0 0) 24 rfl Tryd.underlying22 info23 rfl (by decide) (by omega) u4 acc tk [.slice A6 tk.length c6] (fun k => w1.heap.size ≤ k) (fun k_ => some k_ = (.slice A6 tk.length c6 : Value).ownBlock) rfl rfl ?aP ?aK ?aF ?aO ?aB ?aS ?aL ?_); (case aP => exact Kd.M_row (Kd.R_tight rfl (Kd.R_lower HT6.out HK5.out.1))); (case aK => exact fun k_ hk_ => ⟨Nat.le_trans HK5.out.1 (Kd.R_base HT6.out k_ hk_.symm), fun e_ => by have h1_ := Kd.R_base HT6.out k_ hk_.symm; have h2_ := Kd.S_lt HOUT.out k_ e_.symm; have h3_ := HZ5.out; omega⟩); (case aF => exact fun k hk => Nat.le_trans HK6.out.1 hk); (case aO => exact Kd.S_mono HO6.out (fun k hk => ⟨hk.1, fun e_ => by have h1_ := Kd.R_base HT6.out k e_.symm; have h2_ := hk.2; have h3_ := HZ5.out; omega⟩)); (case aB => exact Below.refl _ _); (case aS => exact HK6.out.1); (case aL => exact HLEN.out); intro v7 w7 ho hb hg_ hat; have HO7 := Aside0.mk ho; have HB7 := Aside0.mk hb; clear ho hb hg_ hat))
          have HS7 := Aside0.mk (HS6.out.moved2 HB7.out HGB.out)
          refine ⟨⟨F, acc ++ [tk], dr, HLL, HR2, HO7, HS7, ⟨kept_below HK6.out HB7.out⟩⟩, ?_⟩
          rw [lenAt_is HS7.out, HLA.out]
          exact HLS.out
def wire_Split.f (l : List Int) : Option (List (List Int) × Int) := if oct5 l = true ∧ l.length ≤ 2097152 then some (splitR (splitF (l.length + 1) [] l)) else none
theorem wire_Split.calls (A0 : Option Addr) (c0 : Nat) (l0 : List Int) (r1 : List (List Int)) (r2 : Int) (w : World) (hg : ErrLaid w) (hr0 : Kd.C (Kd.int .u8) w A0 l0.length l0) (hc0 : l0.length ≤ c0) (h : wire_Split.f l0 = some (r1, r2)) :
    Calls Tryd.prog 13 #[.slice A0 l0.length c0] w fun e w' => ∃ v0_ : Value, e = .returned (.tuple #[v0_, .int .i64 r2]) ∧ Kd.S (Kd.slice 5 (Kd.int .u8)) 23 w' w.heap.size (fun _ => True) v0_ r1 ∧ Below w.heap.size w w' := by
  unfold wire_Split.f at h
  by_cases hc : oct5 l0 = true ∧ l0.length ≤ 2097152
  · rw [if_pos hc] at h
    have h2 := Option.some.inj h
    have := split_main A0 c0 l0 w hg hr0 hc0 hc.1 hc.2 _ rfl
    rwa [h2] at this
  · rw [if_neg hc] at h; cases h
theorem wire_Split.callsG {w0 : World} (hgl : ErrLaid w0) (A0 : Option Addr) (c0 : Nat) (l0 : List Int) (r1 : List (List Int)) (r2 : Int) (w : World) (hbl : Below w0.heap.size w0 w) (hr0 : Kd.C (Kd.int .u8) w A0 l0.length l0) (hc0 : l0.length ≤ c0) (h : wire_Split.f l0 = some (r1, r2)) :
    Calls Tryd.prog 13 #[.slice A0 l0.length c0] w fun e w' => ∃ v0_ : Value, e = .returned (.tuple #[v0_, .int .i64 r2]) ∧ Kd.S (Kd.slice 5 (Kd.int .u8)) 23 w' w.heap.size (fun _ => True) v0_ r1 ∧ Below w.heap.size w w' := wire_Split.calls A0 c0 l0 r1 r2 w (hgl.below hbl hgl.pos) hr0 hc0 h

/-! ### undercroftref02_Copied: function 28 -/
def undercroftref02_Copied.f (l0 : List Int) : Option (List Int) := if ([] : List Int).length + l0.length < 140737488355328 then (some (([] : List Int) ++ l0)) else (none)
set_option maxHeartbeats 8000000 in
set_option maxRecDepth 100000 in
theorem undercroftref02_Copied.calls (A0 : Option Addr) (c0 : Nat) (l0 : List Int) (r : List Int) (w : World) (hr0 : Kd.C (Kd.int .u8) w A0 l0.length l0) (hc0 : l0.length ≤ c0) (h : undercroftref02_Copied.f l0 = some r) :
    Calls Tryd.prog 28 #[.slice A0 l0.length c0] w fun e w' => ∃ v0_ : Value, e = .returned (v0_) ∧ Kd.R (Kd.int .u8) 5 w' w.heap.size (fun _ => True) v0_ r ∧ Below w.heap.size w w' := by
  have HR0 := Aside0.mk hr0
  have HC0 := Aside0.mk hc0
  clear hr0 hc0
  have HB := Aside0.mk (Below.refl w.heap.size w)
  have H : (if ([] : List Int).length + l0.length < 140737488355328 then (some (([] : List Int) ++ l0)) else (none)) = some r := h
  clear h
  by_cases c2 : ([] : List Int).length + l0.length < 140737488355328
  · rw [if_pos c2] at H
    have LMc2 := Aside0.mk c2
    clear c2
    obtain ⟨y134, hy134⟩ : ∃ y_ : List Int, y_ = (([] : List Int) ++ l0) := ⟨_, rfl⟩
    replace H : (some y134) = some r := by first | (rw [hy134]; with_reducible exact H) | (have H2_ := (Option.bind_some _ _).symm.trans H; rw [hy134]; with_reducible exact H2_) | (have H2_ := (Option.bind_some _ _).symm.trans H; with_reducible exact H2_) | with_reducible exact H | (rw [hy134]; exact H) | exact H
    have Ny134 := Aside0.mk hy134
    clear hy134
    obtain rfl := Option.some.inj H
    go_enter Tryd.func28, Tryd.ntmps28
    go_wp2_with (first | ((with_reducible refine gate_builtin (b := .append) (xs := #[.tmp 4, .tmp 5]) rfl ?_); at_builtin; refine Kd.R_append_rows (Kd.int .u8) (w0 := w) w.heap.size rfl (.tmp 4) (.tmp 5) 23 5 (.int .u8 0) 1 rfl Tryd.underlying23 info5 rfl (by decide) (by omega) (.slice none 0 0) ([] : List Int) l0 _ _ _ (fun _ => True) (fun _ => False) rfl rfl ?aO ?aR (fun _ _ h => h) (fun _ h => h.elim) ?aF ?aB ?aS ?aL ?_; (case aR => repeat (first | exact HR0.out | (with_reducible refine Kd.C_alloc ?_ _) | (with_reducible refine Kd.C_drewN ?_ _) | (with_reducible refine Kd.C_drew ?_))); (case aB => exact (by repeat (first | (with_reducible first | exact HB.out | apply below_alloc | apply pw_below_drewN | apply below_drew1) | exact HB.out))); (case aF => exact (fun _ _ => trivial)); (case aO => exact ((Kd.R_nil _ _ _ _ (fun _ => True)))); (case aS => exact (below_size (by repeat (first | (with_reducible first | exact HB.out | apply below_alloc | apply pw_below_drewN | apply below_drew1) | exact HB.out)))); (case aL => have := LMc2.out; omega); intro v135 w3 ho hb hg hat; rw [← Ny134.out] at ho; have n0_ := Aside0.mk (hb); have n1_ := Aside0.mk (ho); clear HB; have HB := n0_; have HO136 := n1_; clear n0_ n1_; clear ho hb hg hat))
    go_ret
    exact ⟨_, by first | rfl | (simp [errW_none, errW_some] <;> rfl) | (simp [*, errW_none, errW_some] <;> rfl) | (exfalso; simp only [beq_iff_eq, decide_eq_true_eq] at *; omega), by (with_reducible repeat (first | apply Kd.R_alloc | apply Kd.R_drewN | apply Kd.R_drew)); exact HO136.out, by repeat (first | (with_reducible first | exact HB.out | apply below_alloc | apply pw_below_drewN | apply below_drew1) | exact HB.out)⟩
  · rw [if_neg c2] at H
    exact absurd H (by simp)

end Go.Proofs.YtkcianklokikoaaDoor.PWli
