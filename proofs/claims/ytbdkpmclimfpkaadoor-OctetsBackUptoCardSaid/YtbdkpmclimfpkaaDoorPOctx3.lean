-- Written by a program of this session (gen.py).
import Derived.Test.YtbdkpmclimfpkaaDoorPOctx0
import Derived.Test.YtbdkpmclimfpkaaDoorPOctx1
import Derived.Test.YtbdkpmclimfpkaaDoorPOctx2
namespace Go.Proofs.YtbdkpmclimfpkaaDoor.POct
open Go.RowKit Go.Proofs.YtbdkpmclimfpkaaDoorW.PrintWords Go.Proofs.YtbdkpmclimfpkaaDoorW.PrintLast Go.Proofs.YtbdkpmclimfpkaaDoorW.PrintMore
open Go.Proofs.YtbdkpmclimfpkaaDoor.Own
attribute [local go_sem high] unary_not_u32 unary_not_u64 unary_not_u8 string_leq_ string_gtr_
attribute [local go_sem] max2_int min2_int max_two min_two max_three min_three max_four min_four   -- for this text's walks alone
set_option linter.unusedVariables false
set_option linter.unusedSimpArgs false

/-! ### octets_value: function 23 -/
mutual
def octets_value.j0 : Nat → Int → Bool → Option (Int)
  | 0, _, _ => none
  | k + 1, x0, x3 => if x3 = true then (some ((wrap32 (x0 - 48)) % 256)) else (if 65 ≤ x0 then (octets_value.j1 k x0 (decide (x0 ≤ 70))) else (octets_value.j1 k x0 false))
def octets_value.j1 : Nat → Int → Bool → Option (Int)
  | 0, _, _ => none
  | k + 1, x0, x10 => if x10 = true then (some ((((wrap32 ((wrap32 (x0 + 32)) - 97)) % 256) + 10) % 256)) else (if 97 ≤ x0 then (if x0 ≤ 102 then (some ((((wrap32 (x0 - 97)) % 256) + 10) % 256)) else (some 16)) else (some 16))
end
def octets_value.f (k : Nat) (a0 : Int) : Option (Int) := if 48 ≤ a0 then (octets_value.j0 k a0 (decide (a0 ≤ 57))) else (octets_value.j0 k a0 false)
theorem octets_value.mono_l : ∀ k, (∀ y0 y1, LeO (octets_value.j0 k y0 y1) (octets_value.j0 (k + 1) y0 y1)) ∧ (∀ y0 y1, LeO (octets_value.j1 k y0 y1) (octets_value.j1 (k + 1) y0 y1))
  | 0 => ⟨fun _ _ r h => by simp [octets_value.j0] at h, fun _ _ r h => by simp [octets_value.j1] at h⟩
  | k + 1 => by
    obtain ⟨ih0, ih1⟩ := octets_value.mono_l k
    refine ⟨?_, ?_⟩
    · intro y0 y1
      unfold octets_value.j0
      repeat' first
      | (with_reducible exact ih0 _ _)
      | (with_reducible exact ih1 _ _)
      | (with_reducible exact LeO.refl _)
      | (with_reducible exact LeO.none _)
      | (with_reducible refine LeO.ite ?_ ?_)
      | (with_reducible refine LeO.bind ?_ (fun _ => ?_))
      | exact ih0 _ _
      | exact ih1 _ _
      | exact LeO.none _
      | refine LeO.ite ?_ ?_
      | refine LeO.bind ?_ (fun _ => ?_)
    · intro y0 y1
      unfold octets_value.j1
      repeat' first
      | (with_reducible exact ih0 _ _)
      | (with_reducible exact ih1 _ _)
      | (with_reducible exact LeO.refl _)
      | (with_reducible exact LeO.none _)
      | (with_reducible refine LeO.ite ?_ ?_)
      | (with_reducible refine LeO.bind ?_ (fun _ => ?_))
      | exact ih0 _ _
      | exact ih1 _ _
      | exact LeO.none _
      | refine LeO.ite ?_ ?_
      | refine LeO.bind ?_ (fun _ => ?_)
theorem octets_value.mono : ∀ a0 k, LeO (octets_value.f k a0) (octets_value.f (k + 1) a0) := by
  intro a0 k
  obtain ⟨ih0, ih1⟩ := octets_value.mono_l k
  unfold octets_value.f
  repeat' first
      | (with_reducible exact ih0 _ _)
      | (with_reducible exact ih1 _ _)
      | (with_reducible exact LeO.refl _)
      | (with_reducible exact LeO.none _)
      | (with_reducible refine LeO.ite ?_ ?_)
      | (with_reducible refine LeO.bind ?_ (fun _ => ?_))
      | exact ih0 _ _
      | exact ih1 _ _
      | exact LeO.none _
      | refine LeO.ite ?_ ?_
      | refine LeO.bind ?_ (fun _ => ?_)
set_option maxHeartbeats 8000000 in
set_option maxRecDepth 100000 in
theorem octets_value.calls (k : Nat) (a0 : Int) (r : Int) (w : World) (h : octets_value.f k a0 = some r) :
    Calls Tryd.prog 23 #[.int .i32 a0] w fun e w' => e = .returned (.int .u8 r) ∧ Drawn0 w w' := by
  have H : (if 48 ≤ a0 then (octets_value.j0 k a0 (decide (a0 ≤ 57))) else (octets_value.j0 k a0 false)) = some r := h
  clear h
  have HC2 := Aside0.mk H
  clear H
  go_enter Tryd.func23, Tryd.ntmps23
  go_upto_region 1 with (fail)
  go_cut [3] (fun v3 wc => ∃ (kq : Nat) (x3_1 : Bool), v3 = .bool x3_1 ∧ Aside0 (octets_value.j0 kq a0 x3_1 = some r) ∧ Aside0 (kq ≤ k) ∧ Drawn0 w wc)
  case first =>
    have H := HC2.out
    clear HC2
    by_cases c3 : 48 ≤ a0
    · rw [if_pos c3] at H
      have c3b0 : decide (48 ≤ a0) = true := decide_eq_true c3
      clear c3
      (first | rw [c3b0] | (simp only [i64_w, i32_w]; rw [c3b0]) | skip)
      have H' := Aside0.mk H
      clear H
      go_wp2
      go_meet
      case rel => exact ⟨_, (decide (a0 ≤ 57)), (by first | rfl | (simp; done) | (simp [*]; done)), H', ⟨by first | omega | exact Nat.le_refl _⟩, by repeat (first | exact Drawn0.refl _ | apply Drawn0.step)⟩
    · rw [if_neg c3] at H
      have c3b0 : decide (48 ≤ a0) = false := decide_eq_false c3
      clear c3
      (first | rw [c3b0] | (simp only [i64_w, i32_w]; rw [c3b0]) | skip)
      have H' := Aside0.mk H
      clear H
      go_wp2
      go_meet
      case rel => exact ⟨_, (false), (by first | rfl | (simp; done) | (simp [*]; done)), H', ⟨by first | omega | exact Nat.le_refl _⟩, by repeat (first | exact Drawn0.refl _ | apply Drawn0.step)⟩
  case rest =>
    clear HC2
    try clear c2
    try clear p2
    try clear c3
    try clear c3b0
    obtain ⟨kq, x3_1, rfl, HA, HJ1, ⟨mc1, rfl⟩⟩ := hcut
    cases kq with
    | zero => exact absurd HA.out (by simp [octets_value.j0])
    | succ kj1 =>
      have H := HA.out
      clear HA
      simp only [octets_value.j0] at H
      by_cases c4 : x3_1 = true
      · subst c4
        have H1 : (some ((wrap32 (a0 - 48)) % 256)) = some r := by rw [if_pos rfl] at H; exact H
        clear H
        have H := H1
        clear H1
        obtain rfl := Option.some.inj H
        go_wp2
        go_ret
        exact ⟨by first | rfl | (simp; done) | (simp [*]; done) | (exfalso; simp only [beq_iff_eq, decide_eq_true_eq] at *; omega), by repeat (first | exact Drawn0.refl _ | apply Drawn0.step)⟩
      · replace c4 := Bool.eq_false_iff.mpr c4
        subst c4
        have H1 : (if 65 ≤ a0 then (octets_value.j1 kj1 a0 (decide (a0 ≤ 70))) else (octets_value.j1 kj1 a0 false)) = some r := by rw [if_neg (show ¬ (false = true) by decide)] at H; exact H
        clear H
        have H := H1
        clear H1
        have HC5 := Aside0.mk H
        clear H
        go_upto_region 2 with (fail)
        go_cut [10] (fun v10 wc => ∃ (kq : Nat) (x10_4 : Bool), v10 = .bool x10_4 ∧ Aside0 (octets_value.j1 kq a0 x10_4 = some r) ∧ Aside0 (kq ≤ kj1) ∧ Drawn0 w wc)
        case first =>
          have H := HC5.out
          clear HC5
          by_cases c6 : 65 ≤ a0
          · rw [if_pos c6] at H
            have c6b0 : decide (65 ≤ a0) = true := decide_eq_true c6
            clear c6
            (first | rw [c6b0] | (simp only [i64_w, i32_w]; rw [c6b0]) | skip)
            have H' := Aside0.mk H
            clear H
            go_wp2
            go_meet
            case rel => exact ⟨_, (decide (a0 ≤ 70)), (by first | rfl | (simp; done) | (simp [*]; done)), H', ⟨by have := HJ1.out; first | omega | exact Nat.le_refl _⟩, by repeat (first | exact Drawn0.refl _ | apply Drawn0.step)⟩
          · rw [if_neg c6] at H
            have c6b0 : decide (65 ≤ a0) = false := decide_eq_false c6
            clear c6
            (first | rw [c6b0] | (simp only [i64_w, i32_w]; rw [c6b0]) | skip)
            have H' := Aside0.mk H
            clear H
            go_wp2
            go_meet
            case rel => exact ⟨_, (false), (by first | rfl | (simp; done) | (simp [*]; done)), H', ⟨by have := HJ1.out; first | omega | exact Nat.le_refl _⟩, by repeat (first | exact Drawn0.refl _ | apply Drawn0.step)⟩
        case rest =>
          clear HC5
          try clear c1
          try clear c2
          try clear p2
          try clear c3
          try clear c3b0
          try clear p3
          try clear c4
          try clear c6
          try clear c6b0
          try clear p2
          obtain ⟨kq, x10_4, rfl, HA, HJ4, ⟨mc4, rfl⟩⟩ := hcut
          cases kq with
          | zero => exact absurd HA.out (by simp [octets_value.j1])
          | succ kj4 =>
            have H := HA.out
            clear HA
            simp only [octets_value.j1] at H
            by_cases c7 : x10_4 = true
            · subst c7
              have H1 : (some ((((wrap32 ((wrap32 (a0 + 32)) - 97)) % 256) + 10) % 256)) = some r := by rw [if_pos rfl] at H; exact H
              clear H
              have H := H1
              clear H1
              obtain rfl := Option.some.inj H
              go_wp2
              go_ret
              exact ⟨by first | rfl | (simp; done) | (simp [*]; done) | (exfalso; simp only [beq_iff_eq, decide_eq_true_eq] at *; omega), by repeat (first | exact Drawn0.refl _ | apply Drawn0.step)⟩
            · replace c7 := Bool.eq_false_iff.mpr c7
              subst c7
              have H1 : (if 97 ≤ a0 then (if a0 ≤ 102 then (some ((((wrap32 (a0 - 97)) % 256) + 10) % 256)) else (some 16)) else (some 16)) = some r := by rw [if_neg (show ¬ (false = true) by decide)] at H; exact H
              clear H
              have H := H1
              clear H1
              by_cases c8 : 97 ≤ a0
              · rw [if_pos c8] at H
                have c8b0 : decide (97 ≤ a0) = true := decide_eq_true c8
                clear c8
                by_cases c9 : a0 ≤ 102
                · rw [if_pos c9] at H
                  have c9b0 : decide (a0 ≤ 102) = true := decide_eq_true c9
                  clear c9
                  obtain rfl := Option.some.inj H
                  go_wp2
                  go_ret
                  exact ⟨by first | rfl | (simp; done) | (simp [*]; done) | (exfalso; simp only [beq_iff_eq, decide_eq_true_eq] at *; omega), by repeat (first | exact Drawn0.refl _ | apply Drawn0.step)⟩
                · rw [if_neg c9] at H
                  have c9b0 : decide (a0 ≤ 102) = false := decide_eq_false c9
                  clear c9
                  obtain rfl := Option.some.inj H
                  go_wp2
                  go_ret
                  exact ⟨by first | rfl | (simp; done) | (simp [*]; done) | (exfalso; simp only [beq_iff_eq, decide_eq_true_eq] at *; omega), by repeat (first | exact Drawn0.refl _ | apply Drawn0.step)⟩
              · rw [if_neg c8] at H
                have c8b0 : decide (97 ≤ a0) = false := decide_eq_false c8
                clear c8
                obtain rfl := Option.some.inj H
                go_wp2
                go_ret
                exact ⟨by first | rfl | (simp; done) | (simp [*]; done) | (exfalso; simp only [beq_iff_eq, decide_eq_true_eq] at *; omega), by repeat (first | exact Drawn0.refl _ | apply Drawn0.step)⟩

/-! ### octets_Unhex: function 15 -/
/-- A digit's worth; 16: it is none. -/
def valI (b : Int) : Int := if 48 ≤ b ∧ b ≤ 57 then b - 48 else if 65 ≤ b ∧ b ≤ 70 then b - 55 else if 97 ≤ b ∧ b ≤ 102 then b - 87 else 16
theorem valI_range (b : Int) : 0 ≤ valI b ∧ valI b ≤ 16 := by unfold valI; repeat' split
                                                              all_goals omega
theorem value_is (c : Int) (h0 : 0 ≤ c) (h1 : c ≤ 2147483647) : octets_value.f 9 c = some (valI c) := by
  have e : ∀ x : Int, -2147483648 ≤ x → x ≤ 2147483647 → wrap32 x = x := fun x _ _ => by unfold wrap32; omega
  by_cases a1 : 48 ≤ c <;> by_cases a2 : c ≤ 57 <;> by_cases a3 : 65 ≤ c <;> by_cases a4 : c ≤ 70 <;> by_cases a5 : 97 ≤ c <;> by_cases a6 : c ≤ 102
  all_goals first
    | (exfalso; omega)
    | (simp [octets_value.f, octets_value.j0, octets_value.j1, valI, a1, a2, a3, a4, a5, a6]
       try rw [e (c + 32) (by omega) (by omega), e (c + 32 - 97) (by omega) (by omega)]
       try rw [e (c - 48) (by omega) (by omega)]
       try rw [e (c - 97) (by omega) (by omega)]
       try omega)
/-- Digits' worths, two by two. -/
def packI : List Int → List Int
  | a :: b :: r => (16 * a + b) :: packI r
  | [a] => [16 * a]
  | [] => []
theorem packI_length : ∀ l : List Int, (packI l).length = (l.length + 1) / 2
  | a :: b :: r => by simp only [packI, List.length_cons]; rw [packI_length r]; omega
  | [a] => by simp [packI]
  | [] => by simp [packI]
theorem packI_even : ∀ (l : List Int) (v : Int), l.length % 2 = 0 → packI (l ++ [v]) = packI l ++ [16 * v]
  | a :: b :: r, v, h => by
    simp only [List.cons_append, packI]
    rw [packI_even r v (by simp only [List.length_cons] at h; omega)]
  | [a], v, h => by simp at h
  | [], v, h => by simp [packI]
theorem or_table : ((List.range 16).all fun a => (List.range 16).all fun v => decide (bits .or .u8 (16 * (a : Int)) (v : Int) = 16 * (a : Int) + (v : Int))) = true := by kernel_rfl
theorem or_is (a v : Int) (h0 : 0 ≤ a) (h1 : a ≤ 15) (h2 : 0 ≤ v) (h3 : v ≤ 15) : bits .or .u8 (16 * a) v = 16 * a + v := by
  have h := List.all_eq_true.1 (List.all_eq_true.1 or_table a.toNat (by simp; omega)) v.toNat (by simp; omega)
  rw [show ((a.toNat : Nat) : Int) = a by omega, show ((v.toNat : Nat) : Int) = v by omega] at h
  simpa using h
theorem packI_odd : ∀ (l : List Int) (v : Int), l.length % 2 = 1 → (∀ x ∈ l, 0 ≤ x ∧ x ≤ 15) → 0 ≤ v → v ≤ 15 → packI (l ++ [v]) = (packI l).set ((packI l).length - 1) (bits .or .u8 ((packI l).getD ((packI l).length - 1) 0) v)
  | a :: b :: r, v, h, hl, h2, h3 => by
    have hr : r.length % 2 = 1 := by simp only [List.length_cons] at h; omega
    have ih := packI_odd r v hr (fun x hx => hl x (by simp [hx])) h2 h3
    have hn : 0 < (packI r).length := by rw [packI_length]; omega
    simp only [List.cons_append, packI, List.length_cons, Nat.add_sub_cancel]
    rw [ih]
    obtain ⟨n, hn2⟩ : ∃ n, (packI r).length = n + 1 := ⟨(packI r).length - 1, by omega⟩
    rw [hn2]
    simp
  | [a], v, h, hl, h2, h3 => by
    simp [packI]
    obtain ⟨p, q⟩ := hl a (by simp)
    rw [or_is a v p q h2 h3]
  | [], v, h, _, _, _ => by simp at h
def valsI (s : ByteArray) (k : Nat) : List Int := (List.range k).map fun (i : Nat) => valI (bt s (i : Int))
theorem valsI_length (s : ByteArray) (k : Nat) : (valsI s k).length = k := by simp [valsI]
theorem valsI_succ (s : ByteArray) (k : Nat) : valsI s (k + 1) = valsI s k ++ [valI (bt s (k : Int))] := by simp [valsI, List.range_succ]
/-- What a text is, read as digits. -/
def unhexI (s : ByteArray) : List Int × Int := if (List.range s.size).all (fun (i : Nat) => decide (valI (bt s (i : Int)) ≤ 15)) then (if s.size % 2 = 1 then ([], 8) else (packI (valsI s s.size), 0)) else ([], 11)
theorem bt_nat (s : ByteArray) (k : Nat) (h : k < s.size) : bt s (k : Int) = ((s[k]'h).toNat : Int) := by simp [bt, h]
theorem decode_val (s : ByteArray) (k : Nat) (h : k < s.size) : valI ((Utf8.decode s k).1 : Int) = valI (bt s (k : Int)) ∧ 1 ≤ (Utf8.decode s k).2 ∧ (valI (bt s (k : Int)) ≤ 15 → (Utf8.decode s k).2 = 1) := by
  rw [bt_nat s k h]
  by_cases ha : (s[k]'h).toNat < 128
  · rw [decode_ascii s k h ha]; exact ⟨rfl, Nat.le_refl _, fun _ => rfl⟩
  · obtain ⟨h1, h2⟩ := decode_high s k h (by omega)
    have e1 : ∀ x : Int, 128 ≤ x → valI x = 16 := fun x hx => by unfold valI; repeat' split
                                                                 all_goals omega
    rw [e1 _ (by omega), e1 _ (by omega)]
    exact ⟨rfl, h2, fun h => by omega⟩
theorem next_at {P : Program} (W : World) (b : Nat) (s : ByteArray) (pos : Nat) (ty : TypeId) (hb : W.heap[b]? = some (.stringIter s pos)) (h : pos < s.size) :
    (Instr.next (.pointer (some ⟨b, 0, none⟩)) true ty).run P W = .ok (.tuple #[.bool true, .int .i64 pos, .int .i32 (Utf8.decode s pos).1]) (W.putObj b (.stringIter s (pos + (Utf8.decode s pos).2))) := by
  simp only [Instr.next, getObj, setObj, Sem.run_bind, Sem.run, hb, Result.andThen, h, if_true]
  simp [goInt, Sem.run, World.putObj]
theorem next_end {P : Program} (W : World) (b : Nat) (s : ByteArray) (pos : Nat) (ty : TypeId) (hb : W.heap[b]? = some (.stringIter s pos)) (h : ¬ pos < s.size) :
    (Instr.next (.pointer (some ⟨b, 0, none⟩)) true ty).run P W = .ok (.tuple #[.bool false]) W := by
  simp [Instr.next, getObj, Sem.run, hb, h]
def octets_Unhex.f (a0 : ByteArray) : Option (List Int × Int) := if a0.size < 140737488355328 then some (unhexI a0) else none
theorem C_of_rowU {W : World} {b off : Nat} {cs : Array Value} {t : TypeId} {fr : Nat × Nat} {l : List Int} (hb : W.heap[b]? = some (.cells cs t fr)) (hl : l.length ≤ 9223372036854775807) (hc : ∀ k, (h : k < l.length) → cs[off + k]? = some (.int .u8 l[k])) :
    Kd.C (Kd.int .u8) W (some ⟨b, off, none⟩) l.length l := by
  refine ⟨rfl, hl, fun _ => ⟨_, rfl, fun j p hp => ⟨[Value.int .u8 p], rfl, rfl, fun i u hu => ?_⟩⟩⟩
  have hi : i = 0 := by
    have := (List.getElem?_eq_some_iff.1 hu).1
    simpa using this
  subst hi
  simp at hu
  subst hu
  obtain ⟨hj, rfl⟩ := List.getElem?_eq_some_iff.1 hp
  have ha : (⟨b, off, none⟩ : Addr).add (j * (Kd.int .u8).sz + 0) = ⟨b, off + j, none⟩ := by
    show (⟨b, off, none⟩ : Addr).add (j * 1 + 0) = _
    unfold Addr.add
    by_cases h0 : j = 0 <;> simp [h0]
  rw [ha, cell_of_row _ _ _ _ _ _ hb]
  exact hc j hj
set_option maxHeartbeats 8000000 in
set_option maxRecDepth 100000 in
theorem octets_Unhex.calls (a0 : ByteArray) (r1 : List Int) (r2 : Int) (w : World) (h : octets_Unhex.f a0 = some (r1, r2)) :
    Calls Tryd.prog 15 #[.string a0] w fun e w' => ∃ v0_ : Value, e = .returned (.tuple #[v0_, .int .i64 r2]) ∧ Kd.R (Kd.int .u8) 5 w' w.heap.size (fun _ => True) v0_ r1 ∧ Below w.heap.size w w' := by
  unfold octets_Unhex.f at h
  by_cases hsz : a0.size < 140737488355328
  case neg => rw [if_neg hsz] at h; cases h
  rw [if_pos hsz] at h
  have HR := Aside0.mk (Option.some.inj h)
  clear h
  go_enter Tryd.func15, Tryd.ntmps15
  go_wp2
  go_loopw [4, 5] (fun o d W => ∃ k : Nat, k ≤ a0.size ∧ d = .bool (decide (k % 2 = 1)) ∧ Aside0 (Kd.R (Kd.int .u8) 5 W w.heap.size (fun j => j ≠ w.heap.size) o (packI (valsI a0 k))) ∧ Aside0 (∀ i, i < k → valI (bt a0 (i : Int)) ≤ 15) ∧ Aside0 (W.heap[w.heap.size]? = some (.stringIter a0 k)) ∧ Aside0 (Below w.heap.size w W)) (fun _ _ W => a0.size - W.iterPos w.heap.size)
  case atStart => exact ⟨0, Nat.zero_le _, by simp, ⟨Kd.R_nil _ _ _ _ _⟩, ⟨fun i hi => by omega⟩, ⟨World.iter_heap _ _ _⟩, ⟨(Below.refl _ _).alloc (Nat.le_refl _) _⟩⟩
  case round =>
    obtain ⟨k, hk, rfl, HO, HD, HI, HB⟩ := hrel
    have hh := (Array.getElem?_eq_some_iff.1 HI.out).1
    by_cases hlt : k < a0.size
    · obtain ⟨hv1, hv2, hv3⟩ := decode_val a0 k hlt
      have hnx := next_at (P := Tryd.prog) wr w.heap.size a0 k 0 HI.out hlt
      have HV := Aside0.mk (value_is ((Utf8.decode a0 k).1 : Int) (by omega) (by have := decode_le a0 k; omega))
      rw [hv1] at HV
      have hvr := valI_range (bt a0 (k : Int))
      have HVV := Aside0.mk (valsI_succ a0 k)
      generalize hdc : Utf8.decode a0 k = dc at *
      obtain ⟨c, step⟩ := dc
      simp only at hnx HV hv1 hv2 hv3
      generalize hvv : valI (bt a0 (k : Int)) = v at *
      have HX := Aside0.mk hvv
      clear hvv hdc hv1
      by_cases h15 : v ≤ 15
      · have hs1 : step = 1 := hv3 h15
        subst hs1
        have hg : decide (15 < v) = false := by simpa using h15
        have hI2 : ∀ nd, ((wr.putObj w.heap.size (.stringIter a0 (k + 1))).drewN nd).heap[w.heap.size]? = some (.stringIter a0 (k + 1)) := fun nd => by simpa using World.putObj_heap_same hh
        have HI2 := Aside0.mk hI2
        have HO2 := Aside0.mk (fun nd => Kd.R_step (w1 := (wr.putObj w.heap.size (.stringIter a0 (k + 1))).drewN nd) HO.out (fun j hj _ => by simpa using World.putObj_heap_other hj))
        have HB2 := Aside0.mk (fun nd => pw_below_drewN (HB.out.grown (grownBy_putObj' wr w.heap.size (.stringIter a0 (k + 1))) (by omega) (fun j e => by cases e; omega)) nd)
        have HD2 := Aside0.mk (show ∀ i, i < k + 1 → valI (bt a0 (i : Int)) ≤ 15 from fun i hi => by
          rcases Nat.lt_or_ge i k with h | h
          · exact HD.out i h
          · obtain rfl : i = k := by omega
            rw [HX.out]; exact h15)
        clear hI2 hv3
        rcases Nat.mod_two_eq_zero_or_one k with hev | hod
        · have hodd : decide (k % 2 = 1) = false := by simp; omega
          rw [hodd]
          have HN2 := Aside0.mk (fun nd o => show (((wr.putObj w.heap.size (.stringIter a0 (k + 1))).drewN nd).alloc o).heap[wr.heap.size]? = some o by simpa using heap_alloc_new ((wr.putObj w.heap.size (.stringIter a0 (k + 1))).drewN nd) o)
          have HK := Aside0.mk hk
          go_wp2_with (first
            | (go_at_call 23; refine (octets_value.calls 9 _ _ _ HV.out).mono ?_; rintro e w' ⟨rfl, ⟨nd, rfl⟩⟩)
            | ((with_reducible refine gate_builtin (b := .append) (xs := #[.tmp 28, .tmp 31]) rfl ?_); at_builtin
               refine Kd.R_append_row (Value.int .u8) 0 (w0 := w) w.heap.size rfl (.tmp 28) (.tmp 31) 23 5 (.int .u8 0) 1 rfl Tryd.underlying23 info5 rfl (by decide) _ (packI (valsI a0 k)) [v * 16] (some ⟨wr.heap.size, 0, none⟩) 1 1 (fun j => j ≠ w.heap.size) rfl rfl (fun j hj => by simp at hj; omega) (Kd.R_below (HO2.out nd) ((Below.refl _ _).alloc (Nat.le_refl _) _)) ?hr ((HB2.out nd).alloc (by simp; omega) _) (by simp; omega) (by rw [packI_length, valsI_length]; omega) ?_
               case hr => exact C_of_rowU (HN2.out nd _) (by simp) (fun j hj => by simp at hj; subst hj; rfl)
               intro o1 w1 hO1 hB1 hg1 _
               have HO1 := Aside0.mk hO1
               have HB1 := Aside0.mk hB1
               have HI1 := Aside0.mk ((hg1.block w.heap.size (by simp; omega) (fun e => (HO.out.1 _ e.symm) rfl)).trans ((Below.heap_alloc _ _ _ (by simp; omega)).trans (HI2.out nd)))
               clear hO1 hB1 hg1))
          refine ⟨⟨k + 1, by omega, by simp; omega, ⟨?_⟩, HD2, HI1, HB1⟩, ?_⟩
          · rw [HVV.out, packI_even _ _ (by rw [valsI_length]; omega), Int.mul_comm 16 v]
            exact HO1.out
          · simp [World.iterPos, HI1.out, HI.out]; omega
        · have hodd : decide (k % 2 = 1) = true := by simp; omega
          rw [hodd]
          obtain ⟨inner, hown⟩ := Kd.R_own HO.out
          obtain ⟨m, hm⟩ : ∃ m, (packI (valsI a0 k)).length = m + 1 := ⟨(packI (valsI a0 k)).length - 1, by rw [packI_length, valsI_length]; omega⟩
          rw [hm] at hown
          obtain ⟨g, cap, rfl⟩ := ownsRow_succ hown
          have HC := Aside0.mk (fun nd => Kd.R_celln (0 : Int) (HO2.out nd) (m : Int) (by omega) (by omega))
          simp only [Int.toNat_natCast] at HC
          have hcell := fun nd => (HC.out nd).1
          have hfroz := fun nd => (HC.out nd).2
          have HP := Aside0.mk (fun nd x => Kd.R_putn (HO2.out nd) (m : Int) x)
          simp only [Int.toNat_natCast] at HP
          have HK := Aside0.mk hk
          have HG := Aside0.mk (HO.out.1 g (by simp [Value.ownBlock]))
          have HM := Aside0.mk hm
          have hm1 : m ≤ 9223372036854775807 := by rw [packI_length, valsI_length] at hm; omega
          have HGB := Aside0.mk (own_base hown g rfl)
          clear hown HC hm
          generalize hold : rdOf 0 (packI (valsI a0 k)) (m : Int) = old at *
          have HOLD := Aside0.mk hold
          clear hold
          go_wp2_with (first
            | (go_at_call 23; refine (octets_value.calls 9 _ _ _ HV.out).mono ?_; rintro e w' ⟨rfl, ⟨nd, rfl⟩⟩))
          have hI3 : (((wr.putObj w.heap.size (.stringIter a0 (k + 1))).drewN nd).setCell ⟨g, m, none⟩ (.int .u8 (bits .or .u8 old v))).heap[w.heap.size]? = some (.stringIter a0 (k + 1)) := (Below.heap_setCell _ _ _ _ (fun e => HG.out (by simpa using e.symm))).trans (HI2.out nd)
          refine ⟨⟨k + 1, by omega, by simp; omega, ⟨?_⟩, HD2, ⟨hI3⟩, ⟨(HB2.out nd).setCell (p := ⟨g, m, none⟩) HGB.out _⟩⟩, ?_⟩
          · have hvs : ∀ x ∈ valsI a0 k, 0 ≤ x ∧ x ≤ 15 := fun x hx => by
              simp only [valsI, List.mem_map, List.mem_range] at hx
              obtain ⟨i, hi, rfl⟩ := hx
              exact ⟨(valI_range _).1, HD.out i hi⟩
            rw [HVV.out, packI_odd _ _ (by rw [valsI_length]; omega) hvs hvr.1 h15, HM.out, Nat.add_sub_cancel]
            have e : (packI (valsI a0 k)).getD m 0 = old := by rw [← HOLD.out]; simp [rdOf]
            rw [e]
            exact HP.out nd _
          · simp [World.iterPos, hI3, HI.out]; omega
      · have hg : decide (15 < v) = true := by simp; omega
        go_wp2_with (first
          | (go_at_call 23; refine (octets_value.calls 9 _ _ _ HV.out).mono ?_; rintro e w' ⟨rfl, ⟨nd, rfl⟩⟩))
        have hnot : unhexI a0 = ([], 11) := by
          unfold unhexI
          rw [if_neg]
          intro hall
          have := List.all_eq_true.1 hall k (by simpa using hlt)
          rw [HX.out] at this
          simp at this
          omega
        rw [HR.out] at hnot
        obtain ⟨rfl, rfl⟩ := Prod.mk.inj hnot
        go_ret2
        exact ⟨_, rfl, Kd.R_nil _ _ _ _ _, pw_below_drewN (HB.out.grown (grownBy_putObj' wr w.heap.size _) (by omega) (fun j e => by cases e; omega)) nd⟩
    · obtain rfl : k = a0.size := by omega
      have hnx := next_end (P := Tryd.prog) wr w.heap.size a0 a0.size 0 HI.out (by omega)
      have hyes : unhexI a0 = if a0.size % 2 = 1 then ([], 8) else (packI (valsI a0 a0.size), 0) := by
        unfold unhexI
        rw [if_pos]
        refine List.all_eq_true.2 fun i hi => ?_
        simpa using HD.out i (by simpa using hi)
      rw [HR.out] at hyes
      clear hlt
      rcases Nat.mod_two_eq_zero_or_one a0.size with hev | hod
      · rw [if_neg (by omega)] at hyes
        obtain ⟨rfl, rfl⟩ := Prod.mk.inj hyes
        have hodd : decide (a0.size % 2 = 1) = false := by simp; omega
        rw [hodd]
        go_wp2
        go_ret2
        exact ⟨_, rfl, Kd.R_mono HO.out (fun _ _ => trivial), HB.out⟩
      · rw [if_pos hod] at hyes
        obtain ⟨rfl, rfl⟩ := Prod.mk.inj hyes
        have hodd : decide (a0.size % 2 = 1) = true := by simp; omega
        rw [hodd]
        go_wp2
        go_ret2
        exact ⟨_, rfl, Kd.R_nil _ _ _ _ _, HB.out⟩

/-! ### octets_Decimal: function 22 -/
/-- Digit p of m, counted from the last, as an octet. -/
def digI (m p : Nat) : Int := 48 + ((m / 10 ^ p % 10 : Nat) : Int)
def decRow (m j : Nat) : Array Value := ((List.range 20).map fun i => Value.int .u8 (if i < 20 - j then 0 else digI m (19 - i))).toArray
theorem decRow_get (m j i : Nat) (h : i < 20) : (decRow m j)[i]? = some (Value.int .u8 (if i < 20 - j then 0 else digI m (19 - i))) := by simp [decRow, h]
theorem decRow_size (m j : Nat) : (decRow m j).size = 20 := by simp [decRow]
theorem decRow_set (m j : Nat) (h : j < 20) : (decRow m j).setIfInBounds (20 - (j + 1)) (Value.int .u8 (digI m j)) = decRow m (j + 1) := by
  apply Array.ext_getElem?
  intro i
  rw [Array.getElem?_setIfInBounds]
  by_cases hi : i < 20
  · by_cases e : 20 - (j + 1) = i
    · subst e
      rw [if_pos rfl, decRow_size, if_pos hi, decRow_get _ _ _ hi, if_neg (by omega), show 19 - (20 - (j + 1)) = j by omega]
    · rw [if_neg e, decRow_get _ _ _ hi, decRow_get _ _ _ hi]
      congr 2
      by_cases h1 : i < 20 - j
      · rw [if_pos h1, if_pos (by omega)]
      · rw [if_neg h1, if_neg (by omega)]
  · have e : 20 - (j + 1) ≠ i := by omega
    rw [if_neg e, Array.getElem?_eq_none (by rw [decRow_size]; omega), Array.getElem?_eq_none (by rw [decRow_size]; omega)]
theorem decRow_zero (m : Nat) : decRow m 0 = #[.int .u8 0, .int .u8 0, .int .u8 0, .int .u8 0, .int .u8 0, .int .u8 0, .int .u8 0, .int .u8 0, .int .u8 0, .int .u8 0, .int .u8 0, .int .u8 0, .int .u8 0, .int .u8 0, .int .u8 0, .int .u8 0, .int .u8 0, .int .u8 0, .int .u8 0, .int .u8 0] := rfl
theorem pow_step (m j : Nat) : m / 10 ^ j / 10 = m / 10 ^ (j + 1) := by rw [Nat.div_div_eq_div_mul, Nat.pow_succ]
theorem u64_mag (n : Int) (h0 : -9223372036854775808 ≤ n) (h1 : n ≤ 9223372036854775807) : (n < 0 → IntKind.u64.wrap (-IntKind.u64.wrap n) = (n.natAbs : Int)) ∧ (¬ n < 0 → IntKind.u64.wrap n = (n.natAbs : Int)) := by
  have e : ∀ x : Int, IntKind.u64.wrap x = x % 18446744073709551616 := fun x => by simp [IntKind.wrap, IntKind.bits, IntKind.signed]
  rw [e, e]
  constructor <;> intro h <;> omega
theorem dec_more (m j : Nat) (h : j = 0 ∨ 0 < m / 10 ^ j) : j + 1 ≤ 1 ∨ 10 ^ (j + 1 - 1) ≤ m := by
  rcases h with h | h
  · exact .inl (by omega)
  · refine .inr ?_
    rw [Nat.add_sub_cancel]
    rcases Nat.lt_or_ge m (10 ^ j) with h2 | h2
    · rw [Nat.div_eq_of_lt h2] at h; omega
    · exact h2
theorem cut_arr (W : World) (b l : Nat) (hl : l < 20) : (Instr.sliceAt 59 (.pointer (some ⟨b, 0, none⟩)) (some (.int .i64 (l : Int))) none none).run Tryd.prog W = .ok (.slice (some ⟨b, l, none⟩) (20 - l) (20 - l)) W := by
  obtain ⟨i0, hi, hz⟩ := Option.map_eq_some_iff.1 info5
  simp only [Prod.mk.injEq] at hz
  have hu : Tryd.prog.underlying 59 = some (.array 20 5) := Tryd.underlying59
  have hl20 : Tryd.prog.arrayLen 59 = 20 := by simp [Program.arrayLen, hu]
  have hel : Tryd.prog.elem 59 = 5 := by simp [Program.elem, hu]
  rw [run_sliceAt_array_l W 59 ⟨b, 0, none⟩ (by rw [hl20, hel]; exact hu) .i64 (l : Int) (by omega) (by rw [hl20]; omega), hl20, hel]
  have ha : (⟨b, 0, none⟩ : Addr).add (l * 1) = ⟨b, l, none⟩ := by rw [Nat.mul_one, add_plain]
  simp [sizeOf, typeInfo, hi, hz.2.1, slicedAt, Result.andThen, add_plain]
  omega
theorem C_of_row {W : World} {b off : Nat} {cs : Array Value} {t : TypeId} {fr : Nat × Nat} {l : List Int} (hb : W.heap[b]? = some (.cells cs t fr)) (hl : l.length ≤ 9223372036854775807) (hc : ∀ k, (h : k < l.length) → cs[off + k]? = some (.int .u8 l[k])) :
    Kd.C (Kd.int .u8) W (some ⟨b, off, none⟩) l.length l := by
  refine ⟨rfl, hl, fun _ => ⟨_, rfl, fun j p hp => ⟨[Value.int .u8 p], rfl, rfl, fun i u hu => ?_⟩⟩⟩
  have hi : i = 0 := by
    have := (List.getElem?_eq_some_iff.1 hu).1
    simpa using this
  subst hi
  simp at hu
  subst hu
  obtain ⟨hj, rfl⟩ := List.getElem?_eq_some_iff.1 hp
  have ha : (⟨b, off, none⟩ : Addr).add (j * (Kd.int .u8).sz + 0) = ⟨b, off + j, none⟩ := by
    show (⟨b, off, none⟩ : Addr).add (j * 1 + 0) = _
    unfold Addr.add
    by_cases h0 : j = 0 <;> simp [h0]
  rw [ha, cell_of_row _ _ _ _ _ _ hb]
  exact hc j hj
/-- j digits of m. -/
def digsI (m j : Nat) : List Int := (List.range j).map fun i => digI m (j - 1 - i)
theorem digsI_length (m j : Nat) : (digsI m j).length = j := by simp [digsI]
theorem dec_end {m j : Nat} (h : ¬ (j = 0 ∨ 0 < m / 10 ^ j)) : m / 10 ^ j = 0 := Nat.eq_zero_of_not_pos fun h2 => h (.inr h2)
/-- How the loop leaves the digits: j of them stand. -/
def DecAt (w : World) (m j : Nat) (W : World) : Prop := W.heap[w.heap.size]? = some (.cells (decRow m j) 59 (0, 0)) ∧ Below w.heap.size w W ∧ w.heap.size < W.heap.size
theorem dec_reads {w W : World} {m j : Nat} (h : W.heap[w.heap.size]? = some (.cells (decRow m j) 59 (0, 0))) (hj : j ≤ 20) : Kd.C (Kd.int .u8) W (some ⟨w.heap.size, 20 - j, none⟩) (digsI m j).length (digsI m j) := by
  refine C_of_row h (by rw [digsI_length]; omega) fun k hk => ?_
  rw [digsI_length] at hk
  rw [decRow_get _ _ _ (by omega), if_neg (by omega)]
  simp [digsI]
  congr 1
  omega
theorem neg_reads {w W : World} {m j : Nat} (h : W.heap[w.heap.size]? = some (.cells (decRow m j) 59 (0, 0))) (hj : j ≤ 19) : Kd.C (Kd.int .u8) (W.setCell ⟨w.heap.size, 20 - j - 1, none⟩ (.int .u8 45)) (some ⟨w.heap.size, 20 - j - 1, none⟩) (45 :: digsI m j).length (45 :: digsI m j) := by
  refine C_of_row (heap_setCell_same _ _ _ _ _ _ h) (by simp [digsI_length]; omega) fun k hk => ?_
  simp [digsI_length] at hk
  rw [Array.getElem?_setIfInBounds]
  rcases k with _ | k
  · rw [if_pos (by omega), decRow_size, if_pos (by omega)]; rfl
  · rw [if_neg (by omega), decRow_get _ _ _ (by omega), if_neg (by omega)]
    simp [digsI]
    congr 1
    omega
/-- How many digits a number has. -/
def ndF : Nat → Nat → Nat
  | 0, _ => 1
  | f + 1, m => if m < 10 then 1 else ndF f (m / 10) + 1
theorem ndF_is : ∀ (j f m : Nat), 1 ≤ j → j ≤ f + 1 → m < 10 ^ j → (j ≤ 1 ∨ 10 ^ (j - 1) ≤ m) → ndF f m = j := by
  intro j
  induction j with
  | zero => intro f m h; omega
  | succ j ih =>
    intro f m _ hf hm hb
    cases f with
    | zero => obtain rfl : j = 0 := by omega
              rfl
    | succ f =>
      unfold ndF
      rcases Nat.eq_zero_or_pos j with h0 | h0
      · subst h0
        rw [if_pos (by simpa using hm)]
      · have hb' : 10 ^ j ≤ m := by
          rcases hb with h | h
          · omega
          · exact h
        have h10 : 10 ≤ 10 ^ j := by
          have := Nat.pow_le_pow_right (show 0 < 10 by decide) h0
          simpa using this
        rw [if_neg (by omega), ih f (m / 10) h0 (by omega) (by rw [Nat.pow_succ] at hm; omega)]
        refine .inr ?_
        have e : 10 ^ j = 10 ^ (j - 1) * 10 := by rw [← Nat.pow_succ]; congr 1; omega
        rw [e] at hb'
        omega
def decI (n : Int) : List Int := (if n < 0 then [45] else []) ++ digsI n.natAbs (ndF 20 n.natAbs)
theorem decI_is (n : Int) (m j : Nat) (hm : n.natAbs = m) (h1 : 1 ≤ j) (hj : j ≤ 20) (hq : m / 10 ^ j = 0) (hb : j ≤ 1 ∨ 10 ^ (j - 1) ≤ m) : decI n = (if n < 0 then [45] else []) ++ digsI m j := by
  subst hm
  unfold decI
  rw [ndF_is j 20 n.natAbs h1 (by omega) (by
    rcases Nat.lt_or_ge n.natAbs (10 ^ j) with h | h
    · exact h
    · have := Nat.div_pos h (Nat.pow_pos (by decide)); omega) hb]
def octets_Decimal.f (a0 : Int) : Option ByteArray := if -9223372036854775808 ≤ a0 ∧ a0 ≤ 9223372036854775807 then some (strOfNums (decI a0)) else none
set_option maxHeartbeats 8000000 in
theorem octets_Decimal.calls (n : Int) (r : ByteArray) (w : World) (h : octets_Decimal.f n = some r) : Calls Tryd.prog 22 #[.int .i64 n] w fun e w' => e = .returned (.string r) ∧ Below w.heap.size w w' := by
  unfold octets_Decimal.f at h
  by_cases hb : -9223372036854775808 ≤ n ∧ n ≤ 9223372036854775807
  case neg => rw [if_neg hb] at h; cases h
  rw [if_pos hb] at h
  obtain rfl := Option.some.inj h
  obtain ⟨h0, h1⟩ := hb
  clear h
  obtain ⟨hm1, hm2⟩ := u64_mag n h0 h1
  have hlt : n.natAbs < 10 ^ 20 := by omega
  generalize hm : n.natAbs = m at *
  by_cases hn : n < 0
  · have hd : decide (n < 0) = true := by simpa using hn
    have hw := hm1 hn
    have HM := Aside0.mk hm
    have HL := Aside0.mk hlt
    have HL2 := Aside0.mk (show m ≤ 18446744073709551615 by omega)
    clear hm hm1 hm2 hlt
    go_enter Tryd.func22, Tryd.ntmps22
    go_wp2
    go_loopw [4, 5, 6] (fun a b ok W => ∃ j : Nat, j ≤ 20 ∧ a = .int .i64 ((20 : Int) - (j : Int)) ∧ b = .int .u64 ((m / 10 ^ j : Nat) : Int) ∧ ok = .bool (decide (j = 0) || decide (0 < m / 10 ^ j)) ∧ Aside0 (DecAt w m j W) ∧ Aside0 (j ≤ 1 ∨ 10 ^ (j - 1) ≤ m)) (fun a _ _ _ => (intOf a).toNat)
    case atStart => exact ⟨0, by omega, rfl, by simp, rfl, ⟨by rw [decRow_zero]; exact heap_alloc_new _ _, (Below.refl _ _).alloc (Nat.le_refl _) _, by simp⟩, ⟨.inl (by omega)⟩⟩
    case round =>
      obtain ⟨j, hj, rfl, rfl, rfl, HA, HJ⟩ := hrel
      by_cases hgo : j = 0 ∨ 0 < m / 10 ^ j
      · have hgo2 : (decide (j = 0) || decide (0 < m / 10 ^ j)) = true := by simpa using hgo
        have hj2 : j < 20 := by
          rcases hgo with h | h
          · omega
          · rcases Nat.lt_or_ge j 20 with h2 | h2
            · exact h2
            · have e : j = 20 := by omega
              rw [e, Nat.div_eq_of_lt HL.out] at h
              omega
        rw [hgo2]
        have HK := Aside0.mk (dec_more m j hgo)
        have hqb : m / 10 ^ j ≤ 18446744073709551615 := Nat.le_trans (Nat.div_le_self _ _) HL2.out
        clear hgo2 hgo
        generalize hq : m / 10 ^ j = q at *
        have HQ := Aside0.mk hq
        clear hq
        have hc : wr.cell? ⟨w.heap.size, 20 - j - 1, none⟩ = some (.int .u8 0) := by
          rw [cell_of_row _ _ _ _ _ _ HA.out.1, decRow_get _ _ _ (by omega), if_pos (by omega)]
        have hf : wr.frozen? ⟨w.heap.size, 20 - j - 1, none⟩ = false := frozen_of_row _ _ _ _ _ HA.out.1
        have hq2 : q ≤ 18446744073709551615 := hqb
        go_wp2
        refine ⟨⟨j + 1, by omega, ?_, ?_, ?_, ?_, HK⟩, ?_⟩
        · go_num
        · rw [← pow_step, HQ.out]; simp
        · rw [← pow_step, HQ.out]; simp; omega
        · refine ⟨?_, HA.out.2.1.setCell (by simp) _, by simpa using HA.out.2.2⟩
          rw [heap_setCell_same _ _ _ _ _ _ HA.out.1]
          rw [← decRow_set m j hj2, show 20 - j - 1 = 20 - (j + 1) by omega]
          unfold digI
          rw [HQ.out]
          simp
        · simp [intOf]; omega
      · have hgo2 : (decide (j = 0) || decide (0 < m / 10 ^ j)) = false := by simpa using hgo
        have hj1 : 1 ≤ j := by omega
        have hj19 : j ≤ 19 := by
          rcases HJ.out with h | h
          · omega
          · rcases Nat.lt_or_ge j 20 with h2 | h2
            · omega
            · have e : j = 20 := by omega
              rw [e] at h
              have := HM.out
              omega
        rw [hgo2]
        have HD := Aside0.mk (decI_is n m j HM.out hj1 hj (dec_end hgo) HJ.out)
        clear hgo2 hgo
        generalize hq : m / 10 ^ j = q at *
        clear hq
        have hc : wr.cell? ⟨w.heap.size, 20 - j - 1, none⟩ = some (.int .u8 0) := by
          rw [cell_of_row _ _ _ _ _ _ HA.out.1, decRow_get _ _ _ (by omega), if_pos (by omega)]
        have hf : wr.frozen? ⟨w.heap.size, 20 - j - 1, none⟩ = false := frozen_of_row _ _ _ _ _ HA.out.1
        have hcut := fun W => cut_arr W w.heap.size (20 - j - 1) (by omega)
        have hi : ((20 : Int) - (j : Int) - 1) = ((20 - j - 1 : Nat) : Int) := by omega
        have hstr := Kd.C_string (P := Tryd.prog) (src := 23) (dst := 9) (e := 5) (c := 20 - (20 - j - 1)) Tryd.underlying23 Tryd.underlying5 Tryd.underlying9 (neg_reads HA.out.1 (by omega))
        rw [show (45 :: digsI m j).length = 20 - (20 - j - 1) by simp [digsI_length]; omega] at hstr
        go_wp2
        go_ret
        refine ⟨?_, HA.out.2.1.setCell (by simp) _⟩
        rw [HD.out, if_pos hn]
        rfl
  · have hd : decide (n < 0) = false := by simpa using hn
    have hw := hm2 hn
    have HM := Aside0.mk hm
    have HL := Aside0.mk hlt
    have HL2 := Aside0.mk (show m ≤ 18446744073709551615 by omega)
    clear hm hm1 hm2 hlt
    go_enter Tryd.func22, Tryd.ntmps22
    go_wp2
    go_loopw [4, 5, 6] (fun a b ok W => ∃ j : Nat, j ≤ 20 ∧ a = .int .i64 ((20 : Int) - (j : Int)) ∧ b = .int .u64 ((m / 10 ^ j : Nat) : Int) ∧ ok = .bool (decide (j = 0) || decide (0 < m / 10 ^ j)) ∧ Aside0 (DecAt w m j W) ∧ Aside0 (j ≤ 1 ∨ 10 ^ (j - 1) ≤ m)) (fun a _ _ _ => (intOf a).toNat)
    case atStart => exact ⟨0, by omega, rfl, by simp, rfl, ⟨by rw [decRow_zero]; exact heap_alloc_new _ _, (Below.refl _ _).alloc (Nat.le_refl _) _, by simp⟩, ⟨.inl (by omega)⟩⟩
    case round =>
      obtain ⟨j, hj, rfl, rfl, rfl, HA, HJ⟩ := hrel
      by_cases hgo : j = 0 ∨ 0 < m / 10 ^ j
      · have hgo2 : (decide (j = 0) || decide (0 < m / 10 ^ j)) = true := by simpa using hgo
        have hj2 : j < 20 := by
          rcases hgo with h | h
          · omega
          · rcases Nat.lt_or_ge j 20 with h2 | h2
            · exact h2
            · have e : j = 20 := by omega
              rw [e, Nat.div_eq_of_lt HL.out] at h
              omega
        rw [hgo2]
        have HK := Aside0.mk (dec_more m j hgo)
        have hqb : m / 10 ^ j ≤ 18446744073709551615 := Nat.le_trans (Nat.div_le_self _ _) HL2.out
        clear hgo2 hgo
        generalize hq : m / 10 ^ j = q at *
        have HQ := Aside0.mk hq
        clear hq
        have hc : wr.cell? ⟨w.heap.size, 20 - j - 1, none⟩ = some (.int .u8 0) := by
          rw [cell_of_row _ _ _ _ _ _ HA.out.1, decRow_get _ _ _ (by omega), if_pos (by omega)]
        have hf : wr.frozen? ⟨w.heap.size, 20 - j - 1, none⟩ = false := frozen_of_row _ _ _ _ _ HA.out.1
        have hq2 : q ≤ 18446744073709551615 := hqb
        go_wp2
        refine ⟨⟨j + 1, by omega, ?_, ?_, ?_, ?_, HK⟩, ?_⟩
        · go_num
        · rw [← pow_step, HQ.out]; simp
        · rw [← pow_step, HQ.out]; simp; omega
        · refine ⟨?_, HA.out.2.1.setCell (by simp) _, by simpa using HA.out.2.2⟩
          rw [heap_setCell_same _ _ _ _ _ _ HA.out.1]
          rw [← decRow_set m j hj2, show 20 - j - 1 = 20 - (j + 1) by omega]
          unfold digI
          rw [HQ.out]
          simp
        · simp [intOf]; omega
      · have hgo2 : (decide (j = 0) || decide (0 < m / 10 ^ j)) = false := by simpa using hgo
        have hj1 : 1 ≤ j := by omega
        rw [hgo2]
        have HD := Aside0.mk (decI_is n m j HM.out hj1 hj (dec_end hgo) HJ.out)
        clear hgo2 hgo
        generalize hq : m / 10 ^ j = q at *
        clear hq
        have hcut := fun W => cut_arr W w.heap.size (20 - j) (by omega)
        have hi : ((20 : Int) - (j : Int)) = ((20 - j : Nat) : Int) := by omega
        have hstr := Kd.C_string (P := Tryd.prog) (src := 23) (dst := 9) (e := 5) (c := 20 - (20 - j)) Tryd.underlying23 Tryd.underlying5 Tryd.underlying9 (dec_reads HA.out.1 (by omega))
        rw [show (digsI m j).length = 20 - (20 - j) by simp [digsI_length]; omega] at hstr
        go_wp2
        go_ret
        refine ⟨?_, HA.out.2.1⟩
        rw [HD.out, if_neg (by omega)]
        rfl

/-! ### undercroftlaw01_alive: function 14 -/
def undercroftlaw01_alive.f (k : Nat)  : Option (Bool) := (octets_Put.f 258 3).bind fun bt119 => ((octets_Unhex.f (⟨#[48, 97, 70]⟩ : ByteArray)).bind fun bt123 => ((undercroftlaw01_num.f bt119.2).bind fun t127 => (if t127 = 0 then ((undercroftplain_SameBytes.f k bt119.1 (([0, 1, 2] : List Int))).bind fun t131 => (if t131 = true then ((octets_Decimal.f (-7)).bind fun t132 => (if t132.toList = ([45, 55] : List UInt8) then ((undercroftlaw01_num.f bt123.2).bind fun t133 => (some (t133 == 8))) else (some false))) else (some false))) else (some false))))
theorem undercroftlaw01_alive.mono : ∀ k, LeO (undercroftlaw01_alive.f k ) (undercroftlaw01_alive.f (k + 1) ) := by
  intro  k
  unfold undercroftlaw01_alive.f
  repeat' first
      | (with_reducible exact undercroftplain_SameBytes.mono _ _ _)
      | (with_reducible exact LeO.refl _)
      | (with_reducible exact LeO.none _)
      | (with_reducible refine LeO.ite ?_ ?_)
      | (with_reducible refine LeO.bind ?_ (fun _ => ?_))
      | exact undercroftplain_SameBytes.mono _ _ _
      | exact LeO.none _
      | refine LeO.ite ?_ ?_
      | refine LeO.bind ?_ (fun _ => ?_)
set_option maxHeartbeats 8000000 in
set_option maxRecDepth 100000 in
theorem undercroftlaw01_alive.calls (k : Nat)  (r : Bool) (w : World) (h : undercroftlaw01_alive.f k  = some r) :
    Calls Tryd.prog 14 #[] w fun e w' => e = .returned (.bool r) ∧ Below w.heap.size w w' := by
  have HB := Aside0.mk (Below.refl w.heap.size w)
  have H : ((octets_Put.f 258 3).bind fun bt119 => ((octets_Unhex.f (⟨#[48, 97, 70]⟩ : ByteArray)).bind fun bt123 => ((undercroftlaw01_num.f bt119.2).bind fun t127 => (if t127 = 0 then ((undercroftplain_SameBytes.f k bt119.1 (([0, 1, 2] : List Int))).bind fun t131 => (if t131 = true then ((octets_Decimal.f (-7)).bind fun t132 => (if t132.toList = ([45, 55] : List UInt8) then ((undercroftlaw01_num.f bt123.2).bind fun t133 => (some (t133 == 8))) else (some false))) else (some false))) else (some false))))) = some r := h
  clear h
  replace H := Option.bind_eq_some_iff.mp H
  obtain ⟨⟨t119, t120⟩, A10, H⟩ := H
  replace H : ((octets_Unhex.f (⟨#[48, 97, 70]⟩ : ByteArray)).bind fun bt123 => ((undercroftlaw01_num.f t120).bind fun t127 => (if t127 = 0 then ((undercroftplain_SameBytes.f k t119 (([0, 1, 2] : List Int))).bind fun t131 => (if t131 = true then ((octets_Decimal.f (-7)).bind fun t132 => (if t132.toList = ([45, 55] : List UInt8) then ((undercroftlaw01_num.f bt123.2).bind fun t133 => (some (t133 == 8))) else (some false))) else (some false))) else (some false)))) = some r := H
  have A1 := Aside0.mk A10
  clear A10
  replace H := Option.bind_eq_some_iff.mp H
  obtain ⟨⟨t123, t124⟩, A20, H⟩ := H
  replace H : ((undercroftlaw01_num.f t120).bind fun t127 => (if t127 = 0 then ((undercroftplain_SameBytes.f k t119 (([0, 1, 2] : List Int))).bind fun t131 => (if t131 = true then ((octets_Decimal.f (-7)).bind fun t132 => (if t132.toList = ([45, 55] : List UInt8) then ((undercroftlaw01_num.f t124).bind fun t133 => (some (t133 == 8))) else (some false))) else (some false))) else (some false))) = some r := H
  have A2 := Aside0.mk A20
  clear A20
  replace H := Option.bind_eq_some_iff.mp H
  obtain ⟨t127, A30, H⟩ := H
  replace H : (if t127 = 0 then ((undercroftplain_SameBytes.f k t119 (([0, 1, 2] : List Int))).bind fun t131 => (if t131 = true then ((octets_Decimal.f (-7)).bind fun t132 => (if t132.toList = ([45, 55] : List UInt8) then ((undercroftlaw01_num.f t124).bind fun t133 => (some (t133 == 8))) else (some false))) else (some false))) else (some false)) = some r := H
  have A3 := Aside0.mk A30
  clear A30
  by_cases c4 : t127 = 0
  · rw [if_pos c4] at H
    have c4b0 : (t127 == 0) = true := beq_iff_eq.mpr c4
    have c4b1 : (t127 != 0) = false := bne_eq_false_iff_eq.mpr c4
    clear c4
    obtain ⟨y128, hy128⟩ : ∃ y_ : List Int, y_ = (([0, 1, 2] : List Int)) := ⟨_, rfl⟩
    replace H : ((undercroftplain_SameBytes.f k t119 y128).bind fun t131 => (if t131 = true then ((octets_Decimal.f (-7)).bind fun t132 => (if t132.toList = ([45, 55] : List UInt8) then ((undercroftlaw01_num.f t124).bind fun t133 => (some (t133 == 8))) else (some false))) else (some false))) = some r := by first | (rw [hy128]; with_reducible exact H) | (have H2_ := (Option.bind_some _ _).symm.trans H; rw [hy128]; with_reducible exact H2_) | (have H2_ := (Option.bind_some _ _).symm.trans H; with_reducible exact H2_) | with_reducible exact H | (rw [hy128]; exact H) | exact H
    have Ny128 := Aside0.mk hy128
    clear hy128
    replace H := Option.bind_eq_some_iff.mp H
    obtain ⟨t131, A50, H⟩ := H
    replace H : (if t131 = true then ((octets_Decimal.f (-7)).bind fun t132 => (if t132.toList = ([45, 55] : List UInt8) then ((undercroftlaw01_num.f t124).bind fun t133 => (some (t133 == 8))) else (some false))) else (some false)) = some r := H
    have A5 := Aside0.mk A50
    clear A50
    by_cases c6 : t131 = true
    · subst c6
      have H1 : ((octets_Decimal.f (-7)).bind fun t132 => (if t132.toList = ([45, 55] : List UInt8) then ((undercroftlaw01_num.f t124).bind fun t133 => (some (t133 == 8))) else (some false))) = some r := by rw [if_pos rfl] at H; exact H
      clear H
      have H := H1
      clear H1
      replace H := Option.bind_eq_some_iff.mp H
      obtain ⟨t132, A70, H⟩ := H
      replace H : (if t132.toList = ([45, 55] : List UInt8) then ((undercroftlaw01_num.f t124).bind fun t133 => (some (t133 == 8))) else (some false)) = some r := H
      have A7 := Aside0.mk A70
      clear A70
      by_cases c8 : t132.toList = ([45, 55] : List UInt8)
      · rw [if_pos c8] at H
        have c8b0 : (t132.toList == ([45, 55] : List UInt8)) = true := beq_iff_eq.mpr c8
        have c8b1 : (t132.toList != ([45, 55] : List UInt8)) = false := bne_eq_false_iff_eq.mpr c8
        clear c8
        replace H := Option.bind_eq_some_iff.mp H
        obtain ⟨t133, A90, H⟩ := H
        replace H : (some (t133 == 8)) = some r := H
        have A9 := Aside0.mk A90
        clear A90
        obtain rfl := Option.some.inj H
        go_enter Tryd.func14, Tryd.ntmps14
        go_wp2_with (first | ((with_reducible refine gate_callee (f := 6) rfl ?_); refine goesL_ (some 6) rfl rfl Tryd.func6 (by kernel_rfl) rfl #[.int .u64 258, .int .i64 3] rfl (by (try simp only [List.map_toArray, List.map_cons, List.map_nil]); first | done | rfl | (simp only [List.length_drop, List.length_take]; rfl)) ?_; (with_reducible refine (octets_Put.calls 258 3 t119 t120 _ A1.out).mono ?_); rintro e w10 ⟨v121, rfl, ho0, hb⟩; refine ⟨_, rfl, ?_⟩; have n0_ := Aside0.mk (Kd.R_lower ho0 (below_size (by repeat (first | (with_reducible first | exact HB.out | apply below_alloc | apply pw_below_drewN | apply below_drew1) | exact HB.out)))); have n1_ := Aside0.mk (below_step (by repeat (first | (with_reducible first | exact HB.out | apply below_alloc | apply pw_below_drewN | apply below_drew1) | exact HB.out)) hb); clear HB; have HO122 := n0_; have HB := n1_; clear n0_ n1_; (try clear hb); (try clear hb2); (try clear hk); (try clear hi); (try clear ho0)) | ((with_reducible refine gate_callee (f := 15) rfl ?_); refine goesL_ (some 10) rfl rfl Tryd.func15 (by kernel_rfl) rfl #[.string (⟨#[48, 97, 70]⟩ : ByteArray)] rfl (by (try simp only [List.map_toArray, List.map_cons, List.map_nil]); first | done | rfl | (simp only [List.length_drop, List.length_take]; rfl)) ?_; (with_reducible refine (octets_Unhex.calls (⟨#[48, 97, 70]⟩ : ByteArray) t123 t124 _ A2.out).mono ?_); rintro e w11 ⟨v125, rfl, ho0, hb⟩; refine ⟨_, rfl, ?_⟩; have n0_ := Aside0.mk (Kd.R_elder' (by (with_reducible repeat (first | apply Kd.R_alloc | apply Kd.R_drewN | apply Kd.R_drew)); exact HO122.out) (Kd.R_base ho0) hb); have n1_ := Aside0.mk (Kd.R_lower (Kd.R_new' ho0 (Kd.R_lt (by (with_reducible repeat (first | apply Kd.R_alloc | apply Kd.R_drewN | apply Kd.R_drew)); exact HO122.out))) (below_size (by repeat (first | (with_reducible first | exact HB.out | apply below_alloc | apply pw_below_drewN | apply below_drew1) | exact HB.out)))); have n2_ := Aside0.mk (below_step (by repeat (first | (with_reducible first | exact HB.out | apply below_alloc | apply pw_below_drewN | apply below_drew1) | exact HB.out)) hb); clear HO122; clear HB; have HO122 := n0_; have HO126 := n1_; have HB := n2_; clear n0_ n1_ n2_; (try clear hb); (try clear hb2); (try clear hk); (try clear hi); (try clear ho0)) | ((with_reducible refine gate_callee (f := 13) rfl ?_); refine goesL_ (some 14) rfl rfl Tryd.func13 (by kernel_rfl) rfl #[.int .i64 t120] rfl (by (try simp only [List.map_toArray, List.map_cons, List.map_nil]); first | done | rfl | (simp only [List.length_drop, List.length_take]; rfl)) ?_; (with_reducible refine (undercroftlaw01_num.calls t120 t127 _ A3.out).mono ?_); rintro e w' ⟨rfl, ⟨nd, rfl⟩⟩; refine ⟨_, rfl, ?_⟩) | ((with_reducible refine gate_dst (N := 18) rfl ?_); (try (refine gate_guard (by rfl) ?_; dsimp only)); refine Kd.R_lit (Kd.int .u8) _ 5 ?hg (N := 18) ?hd (xs := ([0, 1, 2] : List Int)) (inner := [.int .u8 0, .int .u8 1, .int .u8 2]) (ok := fun _ => True) (okp := fun _ => True) ?hr ?hp (fun _ hk => hk) trivial (Below.refl _ _) (Nat.le_refl _) (by simp) ?_; (case hd => rfl); (case hg => rfl); (case hr => first | (go_simp; done) | (go_simp; rfl)); (case hp => exact (Reps.one (show Kd.M (Kd.int .u8) _ _ _ 0 [.int .u8 0] from rfl) (Reps.one (show Kd.M (Kd.int .u8) _ _ _ 1 [.int .u8 1] from rfl) (Reps.one (show Kd.M (Kd.int .u8) _ _ _ 2 [.int .u8 2] from rfl) (Reps.none _ _))))); intro v129 w12 ho13 hb hg_ hnew_; clear hg_ hnew_; (first | rw [← Ny128.out] at ho13 | (simp only [Int.reduceToNat] at ho13; rw [← Ny128.out] at ho13)); have n0_ := Aside0.mk (Kd.R_elder' (by (with_reducible repeat (first | apply Kd.R_alloc | apply Kd.R_drewN | apply Kd.R_drew)); exact HO122.out) (Kd.R_base ho13) hb); have n1_ := Aside0.mk (Kd.R_elder' (by (with_reducible repeat (first | apply Kd.R_alloc | apply Kd.R_drewN | apply Kd.R_drew)); exact HO126.out) (Kd.R_base ho13) hb); have n2_ := Aside0.mk (Kd.R_lower (Kd.R_new' (Kd.R_new' ho13 (Kd.R_lt (by (with_reducible repeat (first | apply Kd.R_alloc | apply Kd.R_drewN | apply Kd.R_drew)); exact HO122.out))) (Kd.R_lt (by (with_reducible repeat (first | apply Kd.R_alloc | apply Kd.R_drewN | apply Kd.R_drew)); exact HO126.out))) (below_size (by repeat (first | (with_reducible first | exact HB.out | apply below_alloc | apply pw_below_drewN | apply below_drew1) | exact HB.out)))); have n3_ := Aside0.mk (below_step (by repeat (first | (with_reducible first | exact HB.out | apply below_alloc | apply pw_below_drewN | apply below_drew1) | exact HB.out)) hb); clear HO122; clear HO126; clear HB; have HO122 := n0_; have HO126 := n1_; have HO130 := n2_; have HB := n3_; clear n0_ n1_ n2_ n3_; clear hb ho13; obtain ⟨Ao14, co14, eo14⟩ := Kd.R_slice HO122.out; subst eo14; obtain ⟨Ao15, co15, eo15⟩ := Kd.R_slice HO130.out; subst eo15) | (go_at_call 12; (with_reducible refine (undercroftplain_SameBytes.calls k _ _ t119 _ _ y128 true _ ?side1 ?side2 ?side3 ?side4 A5.out).mono ?_); (case side1 => repeat (first | exact (Kd.R_reads' HO122.out).2.2 | (with_reducible refine Kd.C_alloc ?_ _) | (with_reducible refine Kd.C_drewN ?_ _) | (with_reducible refine Kd.C_drew ?_))); (case side2 => exact (Kd.R_reads' HO122.out).2.1); (case side3 => repeat (first | exact (Kd.R_reads' HO130.out).2.2 | (with_reducible refine Kd.C_alloc ?_ _) | (with_reducible refine Kd.C_drewN ?_ _) | (with_reducible refine Kd.C_drew ?_))); (case side4 => exact (Kd.R_reads' HO130.out).2.1); rintro e w' ⟨rfl, ⟨nd, rfl⟩⟩) | (go_at_call 22; (with_reducible refine (octets_Decimal.calls (-7) t132 _ A7.out).mono ?_); rintro e w16 ⟨rfl, hb⟩; have n0_ := Aside0.mk (Kd.R_below (by (with_reducible repeat (first | apply Kd.R_alloc | apply Kd.R_drewN | apply Kd.R_drew)); exact HO122.out) hb); have n1_ := Aside0.mk (Kd.R_below (by (with_reducible repeat (first | apply Kd.R_alloc | apply Kd.R_drewN | apply Kd.R_drew)); exact HO126.out) hb); have n2_ := Aside0.mk (Kd.R_below (by (with_reducible repeat (first | apply Kd.R_alloc | apply Kd.R_drewN | apply Kd.R_drew)); exact HO130.out) hb); have n3_ := Aside0.mk (below_step (by repeat (first | (with_reducible first | exact HB.out | apply below_alloc | apply pw_below_drewN | apply below_drew1) | exact HB.out)) hb); clear HO122; clear HO126; clear HO130; clear HB; have HO122 := n0_; have HO126 := n1_; have HO130 := n2_; have HB := n3_; clear n0_ n1_ n2_ n3_; (try clear hb); (try clear hb2); (try clear hk); (try clear hi)) | (go_at_call 13; (with_reducible refine (undercroftlaw01_num.calls t124 t133 _ A9.out).mono ?_); rintro e w' ⟨rfl, ⟨nd, rfl⟩⟩))
        go_ret
        exact ⟨by first | rfl | (simp [errW_none, errW_some] <;> rfl) | (simp [*, errW_none, errW_some] <;> rfl) | (exfalso; simp only [beq_iff_eq, decide_eq_true_eq] at *; omega), by repeat (first | (with_reducible first | exact HB.out | apply below_alloc | apply pw_below_drewN | apply below_drew1) | exact HB.out)⟩
      · rw [if_neg c8] at H
        have c8b0 : (t132.toList == ([45, 55] : List UInt8)) = false := beq_eq_false_iff_ne.mpr c8
        have c8b1 : (t132.toList != ([45, 55] : List UInt8)) = true := bne_iff_ne.mpr c8
        obtain rfl := Option.some.inj H
        go_enter Tryd.func14, Tryd.ntmps14
        go_wp2_with (first | ((with_reducible refine gate_callee (f := 6) rfl ?_); refine goesL_ (some 6) rfl rfl Tryd.func6 (by kernel_rfl) rfl #[.int .u64 258, .int .i64 3] rfl (by (try simp only [List.map_toArray, List.map_cons, List.map_nil]); first | done | rfl | (simp only [List.length_drop, List.length_take]; rfl)) ?_; (with_reducible refine (octets_Put.calls 258 3 t119 t120 _ A1.out).mono ?_); rintro e w17 ⟨v121, rfl, ho0, hb⟩; refine ⟨_, rfl, ?_⟩; have n0_ := Aside0.mk (Kd.R_lower ho0 (below_size (by repeat (first | (with_reducible first | exact HB.out | apply below_alloc | apply pw_below_drewN | apply below_drew1) | exact HB.out)))); have n1_ := Aside0.mk (below_step (by repeat (first | (with_reducible first | exact HB.out | apply below_alloc | apply pw_below_drewN | apply below_drew1) | exact HB.out)) hb); clear HB; have HO122 := n0_; have HB := n1_; clear n0_ n1_; (try clear hb); (try clear hb2); (try clear hk); (try clear hi); (try clear ho0)) | ((with_reducible refine gate_callee (f := 15) rfl ?_); refine goesL_ (some 10) rfl rfl Tryd.func15 (by kernel_rfl) rfl #[.string (⟨#[48, 97, 70]⟩ : ByteArray)] rfl (by (try simp only [List.map_toArray, List.map_cons, List.map_nil]); first | done | rfl | (simp only [List.length_drop, List.length_take]; rfl)) ?_; (with_reducible refine (octets_Unhex.calls (⟨#[48, 97, 70]⟩ : ByteArray) t123 t124 _ A2.out).mono ?_); rintro e w18 ⟨v125, rfl, ho0, hb⟩; refine ⟨_, rfl, ?_⟩; have n0_ := Aside0.mk (Kd.R_elder' (by (with_reducible repeat (first | apply Kd.R_alloc | apply Kd.R_drewN | apply Kd.R_drew)); exact HO122.out) (Kd.R_base ho0) hb); have n1_ := Aside0.mk (Kd.R_lower (Kd.R_new' ho0 (Kd.R_lt (by (with_reducible repeat (first | apply Kd.R_alloc | apply Kd.R_drewN | apply Kd.R_drew)); exact HO122.out))) (below_size (by repeat (first | (with_reducible first | exact HB.out | apply below_alloc | apply pw_below_drewN | apply below_drew1) | exact HB.out)))); have n2_ := Aside0.mk (below_step (by repeat (first | (with_reducible first | exact HB.out | apply below_alloc | apply pw_below_drewN | apply below_drew1) | exact HB.out)) hb); clear HO122; clear HB; have HO122 := n0_; have HO126 := n1_; have HB := n2_; clear n0_ n1_ n2_; (try clear hb); (try clear hb2); (try clear hk); (try clear hi); (try clear ho0)) | ((with_reducible refine gate_callee (f := 13) rfl ?_); refine goesL_ (some 14) rfl rfl Tryd.func13 (by kernel_rfl) rfl #[.int .i64 t120] rfl (by (try simp only [List.map_toArray, List.map_cons, List.map_nil]); first | done | rfl | (simp only [List.length_drop, List.length_take]; rfl)) ?_; (with_reducible refine (undercroftlaw01_num.calls t120 t127 _ A3.out).mono ?_); rintro e w' ⟨rfl, ⟨nd, rfl⟩⟩; refine ⟨_, rfl, ?_⟩) | ((with_reducible refine gate_dst (N := 18) rfl ?_); (try (refine gate_guard (by rfl) ?_; dsimp only)); refine Kd.R_lit (Kd.int .u8) _ 5 ?hg (N := 18) ?hd (xs := ([0, 1, 2] : List Int)) (inner := [.int .u8 0, .int .u8 1, .int .u8 2]) (ok := fun _ => True) (okp := fun _ => True) ?hr ?hp (fun _ hk => hk) trivial (Below.refl _ _) (Nat.le_refl _) (by simp) ?_; (case hd => rfl); (case hg => rfl); (case hr => first | (go_simp; done) | (go_simp; rfl)); (case hp => exact (Reps.one (show Kd.M (Kd.int .u8) _ _ _ 0 [.int .u8 0] from rfl) (Reps.one (show Kd.M (Kd.int .u8) _ _ _ 1 [.int .u8 1] from rfl) (Reps.one (show Kd.M (Kd.int .u8) _ _ _ 2 [.int .u8 2] from rfl) (Reps.none _ _))))); intro v129 w19 ho20 hb hg_ hnew_; clear hg_ hnew_; (first | rw [← Ny128.out] at ho20 | (simp only [Int.reduceToNat] at ho20; rw [← Ny128.out] at ho20)); have n0_ := Aside0.mk (Kd.R_elder' (by (with_reducible repeat (first | apply Kd.R_alloc | apply Kd.R_drewN | apply Kd.R_drew)); exact HO122.out) (Kd.R_base ho20) hb); have n1_ := Aside0.mk (Kd.R_elder' (by (with_reducible repeat (first | apply Kd.R_alloc | apply Kd.R_drewN | apply Kd.R_drew)); exact HO126.out) (Kd.R_base ho20) hb); have n2_ := Aside0.mk (Kd.R_lower (Kd.R_new' (Kd.R_new' ho20 (Kd.R_lt (by (with_reducible repeat (first | apply Kd.R_alloc | apply Kd.R_drewN | apply Kd.R_drew)); exact HO122.out))) (Kd.R_lt (by (with_reducible repeat (first | apply Kd.R_alloc | apply Kd.R_drewN | apply Kd.R_drew)); exact HO126.out))) (below_size (by repeat (first | (with_reducible first | exact HB.out | apply below_alloc | apply pw_below_drewN | apply below_drew1) | exact HB.out)))); have n3_ := Aside0.mk (below_step (by repeat (first | (with_reducible first | exact HB.out | apply below_alloc | apply pw_below_drewN | apply below_drew1) | exact HB.out)) hb); clear HO122; clear HO126; clear HB; have HO122 := n0_; have HO126 := n1_; have HO130 := n2_; have HB := n3_; clear n0_ n1_ n2_ n3_; clear hb ho20; obtain ⟨Ao21, co21, eo21⟩ := Kd.R_slice HO122.out; subst eo21; obtain ⟨Ao22, co22, eo22⟩ := Kd.R_slice HO130.out; subst eo22) | (go_at_call 12; (with_reducible refine (undercroftplain_SameBytes.calls k _ _ t119 _ _ y128 true _ ?side1 ?side2 ?side3 ?side4 A5.out).mono ?_); (case side1 => repeat (first | exact (Kd.R_reads' HO122.out).2.2 | (with_reducible refine Kd.C_alloc ?_ _) | (with_reducible refine Kd.C_drewN ?_ _) | (with_reducible refine Kd.C_drew ?_))); (case side2 => exact (Kd.R_reads' HO122.out).2.1); (case side3 => repeat (first | exact (Kd.R_reads' HO130.out).2.2 | (with_reducible refine Kd.C_alloc ?_ _) | (with_reducible refine Kd.C_drewN ?_ _) | (with_reducible refine Kd.C_drew ?_))); (case side4 => exact (Kd.R_reads' HO130.out).2.1); rintro e w' ⟨rfl, ⟨nd, rfl⟩⟩) | (go_at_call 22; (with_reducible refine (octets_Decimal.calls (-7) t132 _ A7.out).mono ?_); rintro e w23 ⟨rfl, hb⟩; have n0_ := Aside0.mk (Kd.R_below (by (with_reducible repeat (first | apply Kd.R_alloc | apply Kd.R_drewN | apply Kd.R_drew)); exact HO122.out) hb); have n1_ := Aside0.mk (Kd.R_below (by (with_reducible repeat (first | apply Kd.R_alloc | apply Kd.R_drewN | apply Kd.R_drew)); exact HO126.out) hb); have n2_ := Aside0.mk (Kd.R_below (by (with_reducible repeat (first | apply Kd.R_alloc | apply Kd.R_drewN | apply Kd.R_drew)); exact HO130.out) hb); have n3_ := Aside0.mk (below_step (by repeat (first | (with_reducible first | exact HB.out | apply below_alloc | apply pw_below_drewN | apply below_drew1) | exact HB.out)) hb); clear HO122; clear HO126; clear HO130; clear HB; have HO122 := n0_; have HO126 := n1_; have HO130 := n2_; have HB := n3_; clear n0_ n1_ n2_ n3_; (try clear hb); (try clear hb2); (try clear hk); (try clear hi)))
        go_ret
        exact ⟨by first | rfl | (simp [errW_none, errW_some] <;> rfl) | (simp [*, errW_none, errW_some] <;> rfl) | (exfalso; simp only [beq_iff_eq, decide_eq_true_eq] at *; omega), by repeat (first | (with_reducible first | exact HB.out | apply below_alloc | apply pw_below_drewN | apply below_drew1) | exact HB.out)⟩
    · replace c6 := Bool.eq_false_iff.mpr c6
      subst c6
      have H1 : (some false) = some r := by rw [if_neg (show ¬ (false = true) by decide)] at H; exact H
      clear H
      have H := H1
      clear H1
      obtain rfl := Option.some.inj H
      go_enter Tryd.func14, Tryd.ntmps14
      go_wp2_with (first | ((with_reducible refine gate_callee (f := 6) rfl ?_); refine goesL_ (some 6) rfl rfl Tryd.func6 (by kernel_rfl) rfl #[.int .u64 258, .int .i64 3] rfl (by (try simp only [List.map_toArray, List.map_cons, List.map_nil]); first | done | rfl | (simp only [List.length_drop, List.length_take]; rfl)) ?_; (with_reducible refine (octets_Put.calls 258 3 t119 t120 _ A1.out).mono ?_); rintro e w24 ⟨v121, rfl, ho0, hb⟩; refine ⟨_, rfl, ?_⟩; have n0_ := Aside0.mk (Kd.R_lower ho0 (below_size (by repeat (first | (with_reducible first | exact HB.out | apply below_alloc | apply pw_below_drewN | apply below_drew1) | exact HB.out)))); have n1_ := Aside0.mk (below_step (by repeat (first | (with_reducible first | exact HB.out | apply below_alloc | apply pw_below_drewN | apply below_drew1) | exact HB.out)) hb); clear HB; have HO122 := n0_; have HB := n1_; clear n0_ n1_; (try clear hb); (try clear hb2); (try clear hk); (try clear hi); (try clear ho0)) | ((with_reducible refine gate_callee (f := 15) rfl ?_); refine goesL_ (some 10) rfl rfl Tryd.func15 (by kernel_rfl) rfl #[.string (⟨#[48, 97, 70]⟩ : ByteArray)] rfl (by (try simp only [List.map_toArray, List.map_cons, List.map_nil]); first | done | rfl | (simp only [List.length_drop, List.length_take]; rfl)) ?_; (with_reducible refine (octets_Unhex.calls (⟨#[48, 97, 70]⟩ : ByteArray) t123 t124 _ A2.out).mono ?_); rintro e w25 ⟨v125, rfl, ho0, hb⟩; refine ⟨_, rfl, ?_⟩; have n0_ := Aside0.mk (Kd.R_elder' (by (with_reducible repeat (first | apply Kd.R_alloc | apply Kd.R_drewN | apply Kd.R_drew)); exact HO122.out) (Kd.R_base ho0) hb); have n1_ := Aside0.mk (Kd.R_lower (Kd.R_new' ho0 (Kd.R_lt (by (with_reducible repeat (first | apply Kd.R_alloc | apply Kd.R_drewN | apply Kd.R_drew)); exact HO122.out))) (below_size (by repeat (first | (with_reducible first | exact HB.out | apply below_alloc | apply pw_below_drewN | apply below_drew1) | exact HB.out)))); have n2_ := Aside0.mk (below_step (by repeat (first | (with_reducible first | exact HB.out | apply below_alloc | apply pw_below_drewN | apply below_drew1) | exact HB.out)) hb); clear HO122; clear HB; have HO122 := n0_; have HO126 := n1_; have HB := n2_; clear n0_ n1_ n2_; (try clear hb); (try clear hb2); (try clear hk); (try clear hi); (try clear ho0)) | ((with_reducible refine gate_callee (f := 13) rfl ?_); refine goesL_ (some 14) rfl rfl Tryd.func13 (by kernel_rfl) rfl #[.int .i64 t120] rfl (by (try simp only [List.map_toArray, List.map_cons, List.map_nil]); first | done | rfl | (simp only [List.length_drop, List.length_take]; rfl)) ?_; (with_reducible refine (undercroftlaw01_num.calls t120 t127 _ A3.out).mono ?_); rintro e w' ⟨rfl, ⟨nd, rfl⟩⟩; refine ⟨_, rfl, ?_⟩) | ((with_reducible refine gate_dst (N := 18) rfl ?_); (try (refine gate_guard (by rfl) ?_; dsimp only)); refine Kd.R_lit (Kd.int .u8) _ 5 ?hg (N := 18) ?hd (xs := ([0, 1, 2] : List Int)) (inner := [.int .u8 0, .int .u8 1, .int .u8 2]) (ok := fun _ => True) (okp := fun _ => True) ?hr ?hp (fun _ hk => hk) trivial (Below.refl _ _) (Nat.le_refl _) (by simp) ?_; (case hd => rfl); (case hg => rfl); (case hr => first | (go_simp; done) | (go_simp; rfl)); (case hp => exact (Reps.one (show Kd.M (Kd.int .u8) _ _ _ 0 [.int .u8 0] from rfl) (Reps.one (show Kd.M (Kd.int .u8) _ _ _ 1 [.int .u8 1] from rfl) (Reps.one (show Kd.M (Kd.int .u8) _ _ _ 2 [.int .u8 2] from rfl) (Reps.none _ _))))); intro v129 w26 ho27 hb hg_ hnew_; clear hg_ hnew_; (first | rw [← Ny128.out] at ho27 | (simp only [Int.reduceToNat] at ho27; rw [← Ny128.out] at ho27)); have n0_ := Aside0.mk (Kd.R_elder' (by (with_reducible repeat (first | apply Kd.R_alloc | apply Kd.R_drewN | apply Kd.R_drew)); exact HO122.out) (Kd.R_base ho27) hb); have n1_ := Aside0.mk (Kd.R_elder' (by (with_reducible repeat (first | apply Kd.R_alloc | apply Kd.R_drewN | apply Kd.R_drew)); exact HO126.out) (Kd.R_base ho27) hb); have n2_ := Aside0.mk (Kd.R_lower (Kd.R_new' (Kd.R_new' ho27 (Kd.R_lt (by (with_reducible repeat (first | apply Kd.R_alloc | apply Kd.R_drewN | apply Kd.R_drew)); exact HO122.out))) (Kd.R_lt (by (with_reducible repeat (first | apply Kd.R_alloc | apply Kd.R_drewN | apply Kd.R_drew)); exact HO126.out))) (below_size (by repeat (first | (with_reducible first | exact HB.out | apply below_alloc | apply pw_below_drewN | apply below_drew1) | exact HB.out)))); have n3_ := Aside0.mk (below_step (by repeat (first | (with_reducible first | exact HB.out | apply below_alloc | apply pw_below_drewN | apply below_drew1) | exact HB.out)) hb); clear HO122; clear HO126; clear HB; have HO122 := n0_; have HO126 := n1_; have HO130 := n2_; have HB := n3_; clear n0_ n1_ n2_ n3_; clear hb ho27; obtain ⟨Ao28, co28, eo28⟩ := Kd.R_slice HO122.out; subst eo28; obtain ⟨Ao29, co29, eo29⟩ := Kd.R_slice HO130.out; subst eo29) | (go_at_call 12; (with_reducible refine (undercroftplain_SameBytes.calls k _ _ t119 _ _ y128 false _ ?side1 ?side2 ?side3 ?side4 A5.out).mono ?_); (case side1 => repeat (first | exact (Kd.R_reads' HO122.out).2.2 | (with_reducible refine Kd.C_alloc ?_ _) | (with_reducible refine Kd.C_drewN ?_ _) | (with_reducible refine Kd.C_drew ?_))); (case side2 => exact (Kd.R_reads' HO122.out).2.1); (case side3 => repeat (first | exact (Kd.R_reads' HO130.out).2.2 | (with_reducible refine Kd.C_alloc ?_ _) | (with_reducible refine Kd.C_drewN ?_ _) | (with_reducible refine Kd.C_drew ?_))); (case side4 => exact (Kd.R_reads' HO130.out).2.1); rintro e w' ⟨rfl, ⟨nd, rfl⟩⟩))
      go_ret
      exact ⟨by first | rfl | (simp [errW_none, errW_some] <;> rfl) | (simp [*, errW_none, errW_some] <;> rfl) | (exfalso; simp only [beq_iff_eq, decide_eq_true_eq] at *; omega), by repeat (first | (with_reducible first | exact HB.out | apply below_alloc | apply pw_below_drewN | apply below_drew1) | exact HB.out)⟩
  · rw [if_neg c4] at H
    have c4b0 : (t127 == 0) = false := beq_eq_false_iff_ne.mpr c4
    have c4b1 : (t127 != 0) = true := bne_iff_ne.mpr c4
    obtain rfl := Option.some.inj H
    go_enter Tryd.func14, Tryd.ntmps14
    go_wp2_with (first | ((with_reducible refine gate_callee (f := 6) rfl ?_); refine goesL_ (some 6) rfl rfl Tryd.func6 (by kernel_rfl) rfl #[.int .u64 258, .int .i64 3] rfl (by (try simp only [List.map_toArray, List.map_cons, List.map_nil]); first | done | rfl | (simp only [List.length_drop, List.length_take]; rfl)) ?_; (with_reducible refine (octets_Put.calls 258 3 t119 t120 _ A1.out).mono ?_); rintro e w30 ⟨v121, rfl, ho0, hb⟩; refine ⟨_, rfl, ?_⟩; have n0_ := Aside0.mk (Kd.R_lower ho0 (below_size (by repeat (first | (with_reducible first | exact HB.out | apply below_alloc | apply pw_below_drewN | apply below_drew1) | exact HB.out)))); have n1_ := Aside0.mk (below_step (by repeat (first | (with_reducible first | exact HB.out | apply below_alloc | apply pw_below_drewN | apply below_drew1) | exact HB.out)) hb); clear HB; have HO122 := n0_; have HB := n1_; clear n0_ n1_; (try clear hb); (try clear hb2); (try clear hk); (try clear hi); (try clear ho0)) | ((with_reducible refine gate_callee (f := 15) rfl ?_); refine goesL_ (some 10) rfl rfl Tryd.func15 (by kernel_rfl) rfl #[.string (⟨#[48, 97, 70]⟩ : ByteArray)] rfl (by (try simp only [List.map_toArray, List.map_cons, List.map_nil]); first | done | rfl | (simp only [List.length_drop, List.length_take]; rfl)) ?_; (with_reducible refine (octets_Unhex.calls (⟨#[48, 97, 70]⟩ : ByteArray) t123 t124 _ A2.out).mono ?_); rintro e w31 ⟨v125, rfl, ho0, hb⟩; refine ⟨_, rfl, ?_⟩; have n0_ := Aside0.mk (Kd.R_elder' (by (with_reducible repeat (first | apply Kd.R_alloc | apply Kd.R_drewN | apply Kd.R_drew)); exact HO122.out) (Kd.R_base ho0) hb); have n1_ := Aside0.mk (Kd.R_lower (Kd.R_new' ho0 (Kd.R_lt (by (with_reducible repeat (first | apply Kd.R_alloc | apply Kd.R_drewN | apply Kd.R_drew)); exact HO122.out))) (below_size (by repeat (first | (with_reducible first | exact HB.out | apply below_alloc | apply pw_below_drewN | apply below_drew1) | exact HB.out)))); have n2_ := Aside0.mk (below_step (by repeat (first | (with_reducible first | exact HB.out | apply below_alloc | apply pw_below_drewN | apply below_drew1) | exact HB.out)) hb); clear HO122; clear HB; have HO122 := n0_; have HO126 := n1_; have HB := n2_; clear n0_ n1_ n2_; (try clear hb); (try clear hb2); (try clear hk); (try clear hi); (try clear ho0)) | ((with_reducible refine gate_callee (f := 13) rfl ?_); refine goesL_ (some 14) rfl rfl Tryd.func13 (by kernel_rfl) rfl #[.int .i64 t120] rfl (by (try simp only [List.map_toArray, List.map_cons, List.map_nil]); first | done | rfl | (simp only [List.length_drop, List.length_take]; rfl)) ?_; (with_reducible refine (undercroftlaw01_num.calls t120 t127 _ A3.out).mono ?_); rintro e w' ⟨rfl, ⟨nd, rfl⟩⟩; refine ⟨_, rfl, ?_⟩))
    go_ret
    exact ⟨by first | rfl | (simp [errW_none, errW_some] <;> rfl) | (simp [*, errW_none, errW_some] <;> rfl) | (exfalso; simp only [beq_iff_eq, decide_eq_true_eq] at *; omega), by repeat (first | (with_reducible first | exact HB.out | apply below_alloc | apply pw_below_drewN | apply below_drew1) | exact HB.out)⟩

end Go.Proofs.YtbdkpmclimfpkaaDoor.POct
