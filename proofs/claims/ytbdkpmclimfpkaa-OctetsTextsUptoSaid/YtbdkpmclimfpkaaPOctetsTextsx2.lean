-- Written by a program of this session (gen.py).
import Derived.Test.YtbdkpmclimfpkaaPOctetsTextsx0
import Derived.Test.YtbdkpmclimfpkaaPOctetsTextsx1
namespace Go.Proofs.Ytbdkpmclimfpkaa.POctetsTexts
open Go.RowKit Go.Proofs.YtbdkpmclimfpkaaW.PrintWords Go.Proofs.YtbdkpmclimfpkaaW.PrintLast Go.Proofs.YtbdkpmclimfpkaaW.PrintMore
open Go.Proofs.Ytbdkpmclimfpkaa.Own
attribute [local go_sem high] unary_not_u32 unary_not_u64 unary_not_u8
attribute [local go_sem] max2_int min2_int max_two min_two max_three min_three max_four min_four   -- for this text's walks alone
set_option linter.unusedVariables false
set_option linter.unusedSimpArgs false

/-! ### octets_value: function 22 -/
mutual
def octets_value.j0 : Nat → Int → Bool → Option (Int)
  | 0, _, _ => none
  | k + 1, x0, x3 => if x3 = true then (some ((wrap32 (x0 - 48)) % 256)) else (if 65 ≤ x0 then (octets_value.j1 k x0 (decide (x0 ≤ 70))) else (octets_value.j1 k x0 false))
def octets_value.j1 : Nat → Int → Bool → Option (Int)
  | 0, _, _ => none
  | k + 1, x0, x10 => if x10 = true then (some ((((wrap32 ((wrap32 (x0 + 32)) - 97)) % 256) + 10) % 256)) else (if 97 ≤ x0 then (if x0 ≤ 102 then (some ((((wrap32 (x0 - 97)) % 256) + 10) % 256)) else (some 16)) else (some 16))
end
def octets_value.f (k : Nat) (a0 : Int) : Option (Int) := if 48 ≤ a0 then (octets_value.j0 k a0 (decide (a0 ≤ 57))) else (octets_value.j0 k a0 false)
theorem octets_value.mono_l : ∀ k, (∀ y0 y1, LeO (octets_value.j0 k y0 y1) (octets_value.j0 (k + 1) y0 y1)) ∧ (∀ y0 y1, LeO (octets_value.j1 k y0 y1) (octets_value.j1 (k + 1) y0 y1))
  | 0 => ⟨fun _ _ r h => by simp [octets_value.j0] at h, fun _ _ r h => by simp [octets_value.j1] at h⟩
  | k + 1 => by
    obtain ⟨ih0, ih1⟩ := octets_value.mono_l k
    refine ⟨?_, ?_⟩
    · intro y0 y1
      unfold octets_value.j0
      repeat' first
      | (with_reducible exact ih0 _ _)
      | (with_reducible exact ih1 _ _)
      | (with_reducible exact LeO.refl _)
      | (with_reducible exact LeO.none _)
      | (with_reducible refine LeO.ite ?_ ?_)
      | (with_reducible refine LeO.bind ?_ (fun _ => ?_))
      | exact ih0 _ _
      | exact ih1 _ _
      | exact LeO.none _
      | refine LeO.ite ?_ ?_
      | refine LeO.bind ?_ (fun _ => ?_)
    · intro y0 y1
      unfold octets_value.j1
      repeat' first
      | (with_reducible exact ih0 _ _)
      | (with_reducible exact ih1 _ _)
      | (with_reducible exact LeO.refl _)
      | (with_reducible exact LeO.none _)
      | (with_reducible refine LeO.ite ?_ ?_)
      | (with_reducible refine LeO.bind ?_ (fun _ => ?_))
      | exact ih0 _ _
      | exact ih1 _ _
      | exact LeO.none _
      | refine LeO.ite ?_ ?_
      | refine LeO.bind ?_ (fun _ => ?_)
theorem octets_value.mono : ∀ a0 k, LeO (octets_value.f k a0) (octets_value.f (k + 1) a0) := by
  intro a0 k
  obtain ⟨ih0, ih1⟩ := octets_value.mono_l k
  unfold octets_value.f
  repeat' first
      | (with_reducible exact ih0 _ _)
      | (with_reducible exact ih1 _ _)
      | (with_reducible exact LeO.refl _)
      | (with_reducible exact LeO.none _)
      | (with_reducible refine LeO.ite ?_ ?_)
      | (with_reducible refine LeO.bind ?_ (fun _ => ?_))
      | exact ih0 _ _
      | exact ih1 _ _
      | exact LeO.none _
      | refine LeO.ite ?_ ?_
      | refine LeO.bind ?_ (fun _ => ?_)
set_option maxHeartbeats 8000000 in
set_option maxRecDepth 100000 in
theorem octets_value.calls (k : Nat) (a0 : Int) (r : Int) (w : World) (h : octets_value.f k a0 = some r) :
    Calls Try.prog 22 #[.int .i32 a0] w fun e w' => e = .returned (.int .u8 r) ∧ Drawn0 w w' := by
  have H : (if 48 ≤ a0 then (octets_value.j0 k a0 (decide (a0 ≤ 57))) else (octets_value.j0 k a0 false)) = some r := h
  clear h
  have HC2 := Aside0.mk H
  clear H
  go_enter Try.func22, Try.ntmps22
  go_upto_region 1 with (fail)
  go_cut [3] (fun v3 wc => ∃ (kq : Nat) (x3_1 : Bool), v3 = .bool x3_1 ∧ Aside0 (octets_value.j0 kq a0 x3_1 = some r) ∧ Aside0 (kq ≤ k) ∧ Drawn0 w wc)
  case first =>
    have H := HC2.out
    clear HC2
    by_cases c3 : 48 ≤ a0
    · rw [if_pos c3] at H
      have c3b0 : decide (48 ≤ a0) = true := decide_eq_true c3
      clear c3
      (first | rw [c3b0] | (simp only [i64_w, i32_w]; rw [c3b0]) | skip)
      have H' := Aside0.mk H
      clear H
      go_wp2
      go_meet
      case rel => exact ⟨_, (decide (a0 ≤ 57)), (by first | rfl | (simp; done) | (simp [*]; done)), H', ⟨by first | omega | exact Nat.le_refl _⟩, by repeat (first | exact Drawn0.refl _ | apply Drawn0.step)⟩
    · rw [if_neg c3] at H
      have c3b0 : decide (48 ≤ a0) = false := decide_eq_false c3
      clear c3
      (first | rw [c3b0] | (simp only [i64_w, i32_w]; rw [c3b0]) | skip)
      have H' := Aside0.mk H
      clear H
      go_wp2
      go_meet
      case rel => exact ⟨_, (false), (by first | rfl | (simp; done) | (simp [*]; done)), H', ⟨by first | omega | exact Nat.le_refl _⟩, by repeat (first | exact Drawn0.refl _ | apply Drawn0.step)⟩
  case rest =>
    clear HC2
    try clear c2
    try clear p2
    try clear c3
    try clear c3b0
    obtain ⟨kq, x3_1, rfl, HA, HJ1, ⟨mc1, rfl⟩⟩ := hcut
    cases kq with
    | zero => exact absurd HA.out (by simp [octets_value.j0])
    | succ kj1 =>
      have H := HA.out
      clear HA
      simp only [octets_value.j0] at H
      by_cases c4 : x3_1 = true
      · subst c4
        have H1 : (some ((wrap32 (a0 - 48)) % 256)) = some r := by rw [if_pos rfl] at H; exact H
        clear H
        have H := H1
        clear H1
        obtain rfl := Option.some.inj H
        go_wp2
        go_ret
        exact ⟨by first | rfl | (simp; done) | (simp [*]; done), by repeat (first | exact Drawn0.refl _ | apply Drawn0.step)⟩
      · replace c4 := Bool.eq_false_iff.mpr c4
        subst c4
        have H1 : (if 65 ≤ a0 then (octets_value.j1 kj1 a0 (decide (a0 ≤ 70))) else (octets_value.j1 kj1 a0 false)) = some r := by rw [if_neg (show ¬ (false = true) by decide)] at H; exact H
        clear H
        have H := H1
        clear H1
        have HC5 := Aside0.mk H
        clear H
        go_upto_region 2 with (fail)
        go_cut [10] (fun v10 wc => ∃ (kq : Nat) (x10_4 : Bool), v10 = .bool x10_4 ∧ Aside0 (octets_value.j1 kq a0 x10_4 = some r) ∧ Aside0 (kq ≤ kj1) ∧ Drawn0 w wc)
        case first =>
          have H := HC5.out
          clear HC5
          by_cases c6 : 65 ≤ a0
          · rw [if_pos c6] at H
            have c6b0 : decide (65 ≤ a0) = true := decide_eq_true c6
            clear c6
            (first | rw [c6b0] | (simp only [i64_w, i32_w]; rw [c6b0]) | skip)
            have H' := Aside0.mk H
            clear H
            go_wp2
            go_meet
            case rel => exact ⟨_, (decide (a0 ≤ 70)), (by first | rfl | (simp; done) | (simp [*]; done)), H', ⟨by have := HJ1.out; first | omega | exact Nat.le_refl _⟩, by repeat (first | exact Drawn0.refl _ | apply Drawn0.step)⟩
          · rw [if_neg c6] at H
            have c6b0 : decide (65 ≤ a0) = false := decide_eq_false c6
            clear c6
            (first | rw [c6b0] | (simp only [i64_w, i32_w]; rw [c6b0]) | skip)
            have H' := Aside0.mk H
            clear H
            go_wp2
            go_meet
            case rel => exact ⟨_, (false), (by first | rfl | (simp; done) | (simp [*]; done)), H', ⟨by have := HJ1.out; first | omega | exact Nat.le_refl _⟩, by repeat (first | exact Drawn0.refl _ | apply Drawn0.step)⟩
        case rest =>
          clear HC5
          try clear c1
          try clear c2
          try clear p2
          try clear c3
          try clear c3b0
          try clear p3
          try clear c4
          try clear c6
          try clear c6b0
          try clear p2
          obtain ⟨kq, x10_4, rfl, HA, HJ4, ⟨mc4, rfl⟩⟩ := hcut
          cases kq with
          | zero => exact absurd HA.out (by simp [octets_value.j1])
          | succ kj4 =>
            have H := HA.out
            clear HA
            simp only [octets_value.j1] at H
            by_cases c7 : x10_4 = true
            · subst c7
              have H1 : (some ((((wrap32 ((wrap32 (a0 + 32)) - 97)) % 256) + 10) % 256)) = some r := by rw [if_pos rfl] at H; exact H
              clear H
              have H := H1
              clear H1
              obtain rfl := Option.some.inj H
              go_wp2
              go_ret
              exact ⟨by first | rfl | (simp; done) | (simp [*]; done), by repeat (first | exact Drawn0.refl _ | apply Drawn0.step)⟩
            · replace c7 := Bool.eq_false_iff.mpr c7
              subst c7
              have H1 : (if 97 ≤ a0 then (if a0 ≤ 102 then (some ((((wrap32 (a0 - 97)) % 256) + 10) % 256)) else (some 16)) else (some 16)) = some r := by rw [if_neg (show ¬ (false = true) by decide)] at H; exact H
              clear H
              have H := H1
              clear H1
              by_cases c8 : 97 ≤ a0
              · rw [if_pos c8] at H
                have c8b0 : decide (97 ≤ a0) = true := decide_eq_true c8
                clear c8
                by_cases c9 : a0 ≤ 102
                · rw [if_pos c9] at H
                  have c9b0 : decide (a0 ≤ 102) = true := decide_eq_true c9
                  clear c9
                  obtain rfl := Option.some.inj H
                  go_wp2
                  go_ret
                  exact ⟨by first | rfl | (simp; done) | (simp [*]; done), by repeat (first | exact Drawn0.refl _ | apply Drawn0.step)⟩
                · rw [if_neg c9] at H
                  have c9b0 : decide (a0 ≤ 102) = false := decide_eq_false c9
                  clear c9
                  obtain rfl := Option.some.inj H
                  go_wp2
                  go_ret
                  exact ⟨by first | rfl | (simp; done) | (simp [*]; done), by repeat (first | exact Drawn0.refl _ | apply Drawn0.step)⟩
              · rw [if_neg c8] at H
                have c8b0 : decide (97 ≤ a0) = false := decide_eq_false c8
                clear c8
                obtain rfl := Option.some.inj H
                go_wp2
                go_ret
                exact ⟨by first | rfl | (simp; done) | (simp [*]; done), by repeat (first | exact Drawn0.refl _ | apply Drawn0.step)⟩

/-! ### octets_Unhex: function 11 -/
/-- A digit's worth; 16: it is none. -/
def valI (b : Int) : Int := if 48 ≤ b ∧ b ≤ 57 then b - 48 else if 65 ≤ b ∧ b ≤ 70 then b - 55 else if 97 ≤ b ∧ b ≤ 102 then b - 87 else 16
theorem valI_range (b : Int) : 0 ≤ valI b ∧ valI b ≤ 16 := by unfold valI; repeat' split
                                                              all_goals omega
theorem value_is (c : Int) (h0 : 0 ≤ c) (h1 : c ≤ 2147483647) : octets_value.f 9 c = some (valI c) := by
  have e : ∀ x : Int, -2147483648 ≤ x → x ≤ 2147483647 → wrap32 x = x := fun x _ _ => by unfold wrap32; omega
  by_cases a1 : 48 ≤ c <;> by_cases a2 : c ≤ 57 <;> by_cases a3 : 65 ≤ c <;> by_cases a4 : c ≤ 70 <;> by_cases a5 : 97 ≤ c <;> by_cases a6 : c ≤ 102
  all_goals first
    | (exfalso; omega)
    | (simp [octets_value.f, octets_value.j0, octets_value.j1, valI, a1, a2, a3, a4, a5, a6]
       try rw [e (c + 32) (by omega) (by omega), e (c + 32 - 97) (by omega) (by omega)]
       try rw [e (c - 48) (by omega) (by omega)]
       try rw [e (c - 97) (by omega) (by omega)]
       try omega)
/-- Digits' worths, two by two. -/
def packI : List Int → List Int
  | a :: b :: r => (16 * a + b) :: packI r
  | [a] => [16 * a]
  | [] => []
theorem packI_length : ∀ l : List Int, (packI l).length = (l.length + 1) / 2
  | a :: b :: r => by simp only [packI, List.length_cons]; rw [packI_length r]; omega
  | [a] => by simp [packI]
  | [] => by simp [packI]
theorem packI_even : ∀ (l : List Int) (v : Int), l.length % 2 = 0 → packI (l ++ [v]) = packI l ++ [16 * v]
  | a :: b :: r, v, h => by
    simp only [List.cons_append, packI]
    rw [packI_even r v (by simp only [List.length_cons] at h; omega)]
  | [a], v, h => by simp at h
  | [], v, h => by simp [packI]
theorem or_table : ((List.range 16).all fun a => (List.range 16).all fun v => decide (bits .or .u8 (16 * (a : Int)) (v : Int) = 16 * (a : Int) + (v : Int))) = true := by kernel_rfl
theorem or_is (a v : Int) (h0 : 0 ≤ a) (h1 : a ≤ 15) (h2 : 0 ≤ v) (h3 : v ≤ 15) : bits .or .u8 (16 * a) v = 16 * a + v := by
  have h := List.all_eq_true.1 (List.all_eq_true.1 or_table a.toNat (by simp; omega)) v.toNat (by simp; omega)
  rw [show ((a.toNat : Nat) : Int) = a by omega, show ((v.toNat : Nat) : Int) = v by omega] at h
  simpa using h
theorem packI_odd : ∀ (l : List Int) (v : Int), l.length % 2 = 1 → (∀ x ∈ l, 0 ≤ x ∧ x ≤ 15) → 0 ≤ v → v ≤ 15 → packI (l ++ [v]) = (packI l).set ((packI l).length - 1) (bits .or .u8 ((packI l).getD ((packI l).length - 1) 0) v)
  | a :: b :: r, v, h, hl, h2, h3 => by
    have hr : r.length % 2 = 1 := by simp only [List.length_cons] at h; omega
    have ih := packI_odd r v hr (fun x hx => hl x (by simp [hx])) h2 h3
    have hn : 0 < (packI r).length := by rw [packI_length]; omega
    simp only [List.cons_append, packI, List.length_cons, Nat.add_sub_cancel]
    rw [ih]
    obtain ⟨n, hn2⟩ : ∃ n, (packI r).length = n + 1 := ⟨(packI r).length - 1, by omega⟩
    rw [hn2]
    simp
  | [a], v, h, hl, h2, h3 => by
    simp [packI]
    obtain ⟨p, q⟩ := hl a (by simp)
    rw [or_is a v p q h2 h3]
  | [], v, h, _, _, _ => by simp at h
def valsI (s : ByteArray) (k : Nat) : List Int := (List.range k).map fun (i : Nat) => valI (bt s (i : Int))
theorem valsI_length (s : ByteArray) (k : Nat) : (valsI s k).length = k := by simp [valsI]
theorem valsI_succ (s : ByteArray) (k : Nat) : valsI s (k + 1) = valsI s k ++ [valI (bt s (k : Int))] := by simp [valsI, List.range_succ]
/-- What a text is, read as digits. -/
def unhexI (s : ByteArray) : List Int × Int := if (List.range s.size).all (fun (i : Nat) => decide (valI (bt s (i : Int)) ≤ 15)) then (if s.size % 2 = 1 then ([], 8) else (packI (valsI s s.size), 0)) else ([], 11)
theorem bt_nat (s : ByteArray) (k : Nat) (h : k < s.size) : bt s (k : Int) = ((s[k]'h).toNat : Int) := by simp [bt, h]
theorem decode_val (s : ByteArray) (k : Nat) (h : k < s.size) : valI ((Utf8.decode s k).1 : Int) = valI (bt s (k : Int)) ∧ 1 ≤ (Utf8.decode s k).2 ∧ (valI (bt s (k : Int)) ≤ 15 → (Utf8.decode s k).2 = 1) := by
  rw [bt_nat s k h]
  by_cases ha : (s[k]'h).toNat < 128
  · rw [decode_ascii s k h ha]; exact ⟨rfl, Nat.le_refl _, fun _ => rfl⟩
  · obtain ⟨h1, h2⟩ := decode_high s k h (by omega)
    have e1 : ∀ x : Int, 128 ≤ x → valI x = 16 := fun x hx => by unfold valI; repeat' split
                                                                 all_goals omega
    rw [e1 _ (by omega), e1 _ (by omega)]
    exact ⟨rfl, h2, fun h => by omega⟩
theorem next_at {P : Program} (W : World) (b : Nat) (s : ByteArray) (pos : Nat) (ty : TypeId) (hb : W.heap[b]? = some (.stringIter s pos)) (h : pos < s.size) :
    (Instr.next (.pointer (some ⟨b, 0, none⟩)) true ty).run P W = .ok (.tuple #[.bool true, .int .i64 pos, .int .i32 (Utf8.decode s pos).1]) (W.putObj b (.stringIter s (pos + (Utf8.decode s pos).2))) := by
  simp only [Instr.next, getObj, setObj, Sem.run_bind, Sem.run, hb, Result.andThen, h, if_true]
  simp [goInt, Sem.run, World.putObj]
theorem next_end {P : Program} (W : World) (b : Nat) (s : ByteArray) (pos : Nat) (ty : TypeId) (hb : W.heap[b]? = some (.stringIter s pos)) (h : ¬ pos < s.size) :
    (Instr.next (.pointer (some ⟨b, 0, none⟩)) true ty).run P W = .ok (.tuple #[.bool false]) W := by
  simp [Instr.next, getObj, Sem.run, hb, h]
def octets_Unhex.f (a0 : ByteArray) : Option (List Int × Int) := if a0.size < 140737488355328 then some (unhexI a0) else none
theorem C_of_rowU {W : World} {b off : Nat} {cs : Array Value} {t : TypeId} {fr : Nat × Nat} {l : List Int} (hb : W.heap[b]? = some (.cells cs t fr)) (hl : l.length ≤ 9223372036854775807) (hc : ∀ k, (h : k < l.length) → cs[off + k]? = some (.int .u8 l[k])) :
    Kd.C (Kd.int .u8) W (some ⟨b, off, none⟩) l.length l := by
  refine ⟨rfl, hl, fun _ => ⟨_, rfl, fun j p hp => ⟨[Value.int .u8 p], rfl, rfl, fun i u hu => ?_⟩⟩⟩
  have hi : i = 0 := by
    have := (List.getElem?_eq_some_iff.1 hu).1
    simpa using this
  subst hi
  simp at hu
  subst hu
  obtain ⟨hj, rfl⟩ := List.getElem?_eq_some_iff.1 hp
  have ha : (⟨b, off, none⟩ : Addr).add (j * (Kd.int .u8).sz + 0) = ⟨b, off + j, none⟩ := by
    show (⟨b, off, none⟩ : Addr).add (j * 1 + 0) = _
    unfold Addr.add
    by_cases h0 : j = 0 <;> simp [h0]
  rw [ha, cell_of_row _ _ _ _ _ _ hb]
  exact hc j hj
set_option maxHeartbeats 8000000 in
set_option maxRecDepth 100000 in
theorem octets_Unhex.calls (a0 : ByteArray) (r1 : List Int) (r2 : Int) (w : World) (h : octets_Unhex.f a0 = some (r1, r2)) :
    Calls Try.prog 11 #[.string a0] w fun e w' => ∃ v0_ : Value, e = .returned (.tuple #[v0_, .int .i64 r2]) ∧ Kd.R (Kd.int .u8) 5 w' w.heap.size (fun _ => True) v0_ r1 ∧ Below w.heap.size w w' := by
  unfold octets_Unhex.f at h
  by_cases hsz : a0.size < 140737488355328
  case neg => rw [if_neg hsz] at h; cases h
  rw [if_pos hsz] at h
  have HR := Aside0.mk (Option.some.inj h)
  clear h
  go_enter Try.func11, Try.ntmps11
  go_wp2
  go_loopw [4, 5] (fun o d W => ∃ k : Nat, k ≤ a0.size ∧ d = .bool (decide (k % 2 = 1)) ∧ Aside0 (Kd.R (Kd.int .u8) 5 W w.heap.size (fun j => j ≠ w.heap.size) o (packI (valsI a0 k))) ∧ Aside0 (∀ i, i < k → valI (bt a0 (i : Int)) ≤ 15) ∧ Aside0 (W.heap[w.heap.size]? = some (.stringIter a0 k)) ∧ Aside0 (Below w.heap.size w W)) (fun _ _ W => a0.size - W.iterPos w.heap.size)
  case atStart => exact ⟨0, Nat.zero_le _, by simp, ⟨Kd.R_nil _ _ _ _ _⟩, ⟨fun i hi => by omega⟩, ⟨World.iter_heap _ _ _⟩, ⟨(Below.refl _ _).alloc (Nat.le_refl _) _⟩⟩
  case round =>
    obtain ⟨k, hk, rfl, HO, HD, HI, HB⟩ := hrel
    have hh := (Array.getElem?_eq_some_iff.1 HI.out).1
    by_cases hlt : k < a0.size
    · obtain ⟨hv1, hv2, hv3⟩ := decode_val a0 k hlt
      have hnx := next_at (P := Try.prog) wr w.heap.size a0 k 0 HI.out hlt
      have HV := Aside0.mk (value_is ((Utf8.decode a0 k).1 : Int) (by omega) (by have := decode_le a0 k; omega))
      rw [hv1] at HV
      have hvr := valI_range (bt a0 (k : Int))
      have HVV := Aside0.mk (valsI_succ a0 k)
      generalize hdc : Utf8.decode a0 k = dc at *
      obtain ⟨c, step⟩ := dc
      simp only at hnx HV hv1 hv2 hv3
      generalize hvv : valI (bt a0 (k : Int)) = v at *
      have HX := Aside0.mk hvv
      clear hvv hdc hv1
      by_cases h15 : v ≤ 15
      · have hs1 : step = 1 := hv3 h15
        subst hs1
        have hg : decide (15 < v) = false := by simpa using h15
        have hI2 : ∀ nd, ((wr.putObj w.heap.size (.stringIter a0 (k + 1))).drewN nd).heap[w.heap.size]? = some (.stringIter a0 (k + 1)) := fun nd => by simpa using World.putObj_heap_same hh
        have HI2 := Aside0.mk hI2
        have HO2 := Aside0.mk (fun nd => Kd.R_step (w1 := (wr.putObj w.heap.size (.stringIter a0 (k + 1))).drewN nd) HO.out (fun j hj _ => by simpa using World.putObj_heap_other hj))
        have HB2 := Aside0.mk (fun nd => pw_below_drewN (HB.out.grown (grownBy_putObj' wr w.heap.size (.stringIter a0 (k + 1))) (by omega) (fun j e => by cases e; omega)) nd)
        have HD2 := Aside0.mk (show ∀ i, i < k + 1 → valI (bt a0 (i : Int)) ≤ 15 from fun i hi => by
          rcases Nat.lt_or_ge i k with h | h
          · exact HD.out i h
          · obtain rfl : i = k := by omega
            rw [HX.out]; exact h15)
        clear hI2 hv3
        rcases Nat.mod_two_eq_zero_or_one k with hev | hod
        · have hodd : decide (k % 2 = 1) = false := by simp; omega
          rw [hodd]
          have HN2 := Aside0.mk (fun nd o => show (((wr.putObj w.heap.size (.stringIter a0 (k + 1))).drewN nd).alloc o).heap[wr.heap.size]? = some o by simpa using heap_alloc_new ((wr.putObj w.heap.size (.stringIter a0 (k + 1))).drewN nd) o)
          have HK := Aside0.mk hk
          go_wp2_with (first
            | (go_at_call 22; refine (octets_value.calls 9 _ _ _ HV.out).mono ?_; rintro e w' ⟨rfl, ⟨nd, rfl⟩⟩)
            | ((with_reducible refine gate_builtin (b := .append) (xs := #[.tmp 28, .tmp 31]) rfl ?_); at_builtin
               refine Kd.R_append_row (Value.int .u8) 0 (w0 := w) w.heap.size rfl (.tmp 28) (.tmp 31) 24 5 (.int .u8 0) 1 rfl Try.underlying24 info5 rfl (by decide) _ (packI (valsI a0 k)) [v * 16] (some ⟨wr.heap.size, 0, none⟩) 1 1 (fun j => j ≠ w.heap.size) rfl rfl (fun j hj => by simp at hj; omega) (Kd.R_below (HO2.out nd) ((Below.refl _ _).alloc (Nat.le_refl _) _)) ?hr ((HB2.out nd).alloc (by simp; omega) _) (by simp; omega) (by rw [packI_length, valsI_length]; omega) ?_
               case hr => exact C_of_rowU (HN2.out nd _) (by simp) (fun j hj => by simp at hj; subst hj; rfl)
               intro o1 w1 hO1 hB1 hg1 _
               have HO1 := Aside0.mk hO1
               have HB1 := Aside0.mk hB1
               have HI1 := Aside0.mk ((hg1.block w.heap.size (by simp; omega) (fun e => (HO.out.1 _ e.symm) rfl)).trans ((Below.heap_alloc _ _ _ (by simp; omega)).trans (HI2.out nd)))
               clear hO1 hB1 hg1))
          refine ⟨⟨k + 1, by omega, by simp; omega, ⟨?_⟩, HD2, HI1, HB1⟩, ?_⟩
          · rw [HVV.out, packI_even _ _ (by rw [valsI_length]; omega), Int.mul_comm 16 v]
            exact HO1.out
          · simp [World.iterPos, HI1.out, HI.out]; omega
        · have hodd : decide (k % 2 = 1) = true := by simp; omega
          rw [hodd]
          obtain ⟨inner, hown⟩ := Kd.R_own HO.out
          obtain ⟨m, hm⟩ : ∃ m, (packI (valsI a0 k)).length = m + 1 := ⟨(packI (valsI a0 k)).length - 1, by rw [packI_length, valsI_length]; omega⟩
          rw [hm] at hown
          obtain ⟨g, cap, rfl⟩ := ownsRow_succ hown
          have HC := Aside0.mk (fun nd => Kd.R_celln (0 : Int) (HO2.out nd) (m : Int) (by omega) (by omega))
          simp only [Int.toNat_natCast] at HC
          have hcell := fun nd => (HC.out nd).1
          have hfroz := fun nd => (HC.out nd).2
          have HP := Aside0.mk (fun nd x => Kd.R_putn (HO2.out nd) (m : Int) x)
          simp only [Int.toNat_natCast] at HP
          have HK := Aside0.mk hk
          have HG := Aside0.mk (HO.out.1 g (by simp [Value.ownBlock]))
          have HM := Aside0.mk hm
          have hm1 : m ≤ 9223372036854775807 := by rw [packI_length, valsI_length] at hm; omega
          have HGB := Aside0.mk (own_base hown g rfl)
          clear hown HC hm
          generalize hold : rdOf 0 (packI (valsI a0 k)) (m : Int) = old at *
          have HOLD := Aside0.mk hold
          clear hold
          go_wp2_with (first
            | (go_at_call 22; refine (octets_value.calls 9 _ _ _ HV.out).mono ?_; rintro e w' ⟨rfl, ⟨nd, rfl⟩⟩))
          have hI3 : (((wr.putObj w.heap.size (.stringIter a0 (k + 1))).drewN nd).setCell ⟨g, m, none⟩ (.int .u8 (bits .or .u8 old v))).heap[w.heap.size]? = some (.stringIter a0 (k + 1)) := (Below.heap_setCell _ _ _ _ (fun e => HG.out (by simpa using e.symm))).trans (HI2.out nd)
          refine ⟨⟨k + 1, by omega, by simp; omega, ⟨?_⟩, HD2, ⟨hI3⟩, ⟨(HB2.out nd).setCell (p := ⟨g, m, none⟩) HGB.out _⟩⟩, ?_⟩
          · have hvs : ∀ x ∈ valsI a0 k, 0 ≤ x ∧ x ≤ 15 := fun x hx => by
              simp only [valsI, List.mem_map, List.mem_range] at hx
              obtain ⟨i, hi, rfl⟩ := hx
              exact ⟨(valI_range _).1, HD.out i hi⟩
            rw [HVV.out, packI_odd _ _ (by rw [valsI_length]; omega) hvs hvr.1 h15, HM.out, Nat.add_sub_cancel]
            have e : (packI (valsI a0 k)).getD m 0 = old := by rw [← HOLD.out]; simp [rdOf]
            rw [e]
            exact HP.out nd _
          · simp [World.iterPos, hI3, HI.out]; omega
      · have hg : decide (15 < v) = true := by simp; omega
        go_wp2_with (first
          | (go_at_call 22; refine (octets_value.calls 9 _ _ _ HV.out).mono ?_; rintro e w' ⟨rfl, ⟨nd, rfl⟩⟩))
        have hnot : unhexI a0 = ([], 11) := by
          unfold unhexI
          rw [if_neg]
          intro hall
          have := List.all_eq_true.1 hall k (by simpa using hlt)
          rw [HX.out] at this
          simp at this
          omega
        rw [HR.out] at hnot
        obtain ⟨rfl, rfl⟩ := Prod.mk.inj hnot
        go_ret2
        exact ⟨_, rfl, Kd.R_nil _ _ _ _ _, pw_below_drewN (HB.out.grown (grownBy_putObj' wr w.heap.size _) (by omega) (fun j e => by cases e; omega)) nd⟩
    · obtain rfl : k = a0.size := by omega
      have hnx := next_end (P := Try.prog) wr w.heap.size a0 a0.size 0 HI.out (by omega)
      have hyes : unhexI a0 = if a0.size % 2 = 1 then ([], 8) else (packI (valsI a0 a0.size), 0) := by
        unfold unhexI
        rw [if_pos]
        refine List.all_eq_true.2 fun i hi => ?_
        simpa using HD.out i (by simpa using hi)
      rw [HR.out] at hyes
      clear hlt
      rcases Nat.mod_two_eq_zero_or_one a0.size with hev | hod
      · rw [if_neg (by omega)] at hyes
        obtain ⟨rfl, rfl⟩ := Prod.mk.inj hyes
        have hodd : decide (a0.size % 2 = 1) = false := by simp; omega
        rw [hodd]
        go_wp2
        go_ret2
        exact ⟨_, rfl, Kd.R_mono HO.out (fun _ _ => trivial), HB.out⟩
      · rw [if_pos hod] at hyes
        obtain ⟨rfl, rfl⟩ := Prod.mk.inj hyes
        have hodd : decide (a0.size % 2 = 1) = true := by simp; omega
        rw [hodd]
        go_wp2
        go_ret2
        exact ⟨_, rfl, Kd.R_nil _ _ _ _ _, HB.out⟩

/-! ### undercroftplain_SameBytes: function 15 -/
def undercroftplain_SameBytes.l0 : Nat → List Int → List Int → Int → Option (Bool)
  | 0, _, _, _ => none
  | k + 1, x0, x1, x5 => if x5 < (x0.length : Int) then (if 0 ≤ x5 then (if x5 < (x1.length : Int) then (if (rd x0 x5) = (rd x1 x5) then (undercroftplain_SameBytes.l0 k x0 x1 (wrap64 (x5 + 1))) else (some false)) else (none)) else (none)) else (some true)
def undercroftplain_SameBytes.f (k : Nat) (l0 : List Int) (l1 : List Int) : Option (Bool) := if (l0.length : Int) = (l1.length : Int) then (undercroftplain_SameBytes.l0 k l0 l1 0) else (some false)
theorem undercroftplain_SameBytes.mono_l : ∀ k, (∀ y0 y1 y2, LeO (undercroftplain_SameBytes.l0 k y0 y1 y2) (undercroftplain_SameBytes.l0 (k + 1) y0 y1 y2))
  | 0 => fun _ _ _ r h => by simp [undercroftplain_SameBytes.l0] at h
  | k + 1 => by
    have ih0 := undercroftplain_SameBytes.mono_l k
    · intro y0 y1 y2
      unfold undercroftplain_SameBytes.l0
      repeat' first
      | (with_reducible exact ih0 _ _ _)
      | (with_reducible exact LeO.refl _)
      | (with_reducible exact LeO.none _)
      | (with_reducible refine LeO.ite ?_ ?_)
      | (with_reducible refine LeO.bind ?_ (fun _ => ?_))
      | exact ih0 _ _ _
      | exact LeO.none _
      | refine LeO.ite ?_ ?_
      | refine LeO.bind ?_ (fun _ => ?_)
theorem undercroftplain_SameBytes.mono : ∀ a0 a1 k, LeO (undercroftplain_SameBytes.f k a0 a1) (undercroftplain_SameBytes.f (k + 1) a0 a1) := by
  intro a0 a1 k
  have ih0 := undercroftplain_SameBytes.mono_l k
  unfold undercroftplain_SameBytes.f
  repeat' first
      | (with_reducible exact ih0 _ _ _)
      | (with_reducible exact LeO.refl _)
      | (with_reducible exact LeO.none _)
      | (with_reducible refine LeO.ite ?_ ?_)
      | (with_reducible refine LeO.bind ?_ (fun _ => ?_))
      | exact ih0 _ _ _
      | exact LeO.none _
      | refine LeO.ite ?_ ?_
      | refine LeO.bind ?_ (fun _ => ?_)
set_option maxHeartbeats 8000000 in
set_option maxRecDepth 100000 in
theorem undercroftplain_SameBytes.calls (k : Nat) (A0 : Option Addr) (c0 : Nat) (l0 : List Int) (A1 : Option Addr) (c1 : Nat) (l1 : List Int) (r : Bool) (w : World) (hr0 : Kd.C (Kd.int .u8) w A0 l0.length l0) (hc0 : l0.length ≤ c0) (hr1 : Kd.C (Kd.int .u8) w A1 l1.length l1) (hc1 : l1.length ≤ c1) (h : undercroftplain_SameBytes.f k l0 l1 = some r) :
    Calls Try.prog 15 #[.slice A0 l0.length c0, .slice A1 l1.length c1] w fun e w' => e = .returned (.bool r) ∧ Drawn0 w w' := by
  have HR0 := Aside0.mk hr0
  have HC0 := Aside0.mk hc0
  clear hr0 hc0
  have HR1 := Aside0.mk hr1
  have HC1 := Aside0.mk hc1
  clear hr1 hc1
  have H : (if (l0.length : Int) = (l1.length : Int) then (undercroftplain_SameBytes.l0 k l0 l1 0) else (some false)) = some r := h
  clear h
  by_cases c3 : (l0.length : Int) = (l1.length : Int)
  · rw [if_pos c3] at H
    have c3b0 : ((l0.length : Int) == (l1.length : Int)) = true := beq_iff_eq.mpr c3
    have c3b1 : ((l0.length : Int) != (l1.length : Int)) = false := bne_eq_false_iff_eq.mpr c3
    have c3b2 : (l0.length == l1.length) = true := by first | simpa using c3 | (simp at c3 ⊢; omega)
    clear c3
    have H' := Aside0.mk H
    clear H
    go_enter Try.func15, Try.ntmps15
    go_wp2
    repeat (go_quiet (fail); try go_wp2)
    go_loopg [5] k (fun kq v5 w' => ∃ (x5_1 : Int), v5 = .int .i64 x5_1 ∧ Aside0 (undercroftplain_SameBytes.l0 kq l0 l1 x5_1 = some r) ∧ Aside0 (kq ≤ k) ∧ Drawn0 w w')
    case atStart => exact ⟨(0), (by first | rfl | (simp; done) | (simp [*]; done)), H', ⟨Nat.le_refl _⟩, by repeat (first | exact Drawn0.refl _ | apply Drawn0.step)⟩
    case round =>
      clear H'
      try clear c1
      try clear p2
      try clear c3
      try clear c3b0
      try clear c3b1
      try clear c3b2
      obtain ⟨x5_1, rfl, HA, HK1, ⟨m1, rfl⟩⟩ := hrel
      cases gk with
      | zero => exact absurd HA.out (by simp [undercroftplain_SameBytes.l0])
      | succ k1 =>
        have H := HA.out
        clear HA
        simp only [undercroftplain_SameBytes.l0] at H
        by_cases c4 : x5_1 < (l0.length : Int)
        · rw [if_pos c4] at H
          have c4b0 : decide (x5_1 < (l0.length : Int)) = true := decide_eq_true c4
          clear c4
          by_cases c5 : 0 ≤ x5_1
          · rw [if_pos c5] at H
            have c5b0 : decide (0 ≤ x5_1) = true := decide_eq_true c5
            clear c5
            by_cases c6 : x5_1 < (l1.length : Int)
            · rw [if_pos c6] at H
              have c6b0 : decide (x5_1 < (l1.length : Int)) = true := decide_eq_true c6
              clear c6
              by_cases c7 : (rd l0 x5_1) = (rd l1 x5_1)
              · rw [if_pos c7] at H
                have c7b0 : ((rd l0 x5_1) == (rd l1 x5_1)) = true := beq_iff_eq.mpr c7
                have c7b1 : ((rd l0 x5_1) != (rd l1 x5_1)) = false := bne_eq_false_iff_eq.mpr c7
                clear c7
                have H' := Aside0.mk H
                clear H
                have p102 : 0 ≤ (x5_1 : Int) := of_decide_eq_true (by first | (with_reducible assumption) | assumption)
                have q102 : x5_1 < (l0.length : Int) := of_decide_eq_true (by first | (with_reducible assumption) | assumption)
                obtain ⟨ad102, e102, hx102_0⟩ := Kd.at_int HR0.out x5_1 p102 q102
                cases e102
                replace p102 := eq_true p102
                replace q102 := eq_true q102
                have p103 : 0 ≤ (x5_1 : Int) := of_decide_eq_true (by first | (with_reducible assumption) | assumption)
                have q103 : x5_1 < (l1.length : Int) := of_decide_eq_true (by first | (with_reducible assumption) | assumption)
                obtain ⟨ad103, e103, hx103_0⟩ := Kd.at_int HR1.out x5_1 p103 q103
                cases e103
                replace p103 := eq_true p103
                replace q103 := eq_true q103
                go_wp2
                repeat (go_quiet (fail); try go_wp2)
                go_roundg k1
                case measure => have := HK1.out; omega
                case rel => exact ⟨(wrap64 (x5_1 + 1)), (by first | rfl | (simp; done) | (simp [*]; done)), H', ⟨by have := HK1.out; omega⟩, by repeat (first | exact Drawn0.refl _ | apply Drawn0.step)⟩
              · rw [if_neg c7] at H
                have c7b0 : ((rd l0 x5_1) == (rd l1 x5_1)) = false := beq_eq_false_iff_ne.mpr c7
                have c7b1 : ((rd l0 x5_1) != (rd l1 x5_1)) = true := bne_iff_ne.mpr c7
                obtain rfl := Option.some.inj H
                have p102 : 0 ≤ (x5_1 : Int) := of_decide_eq_true (by first | (with_reducible assumption) | assumption)
                have q102 : x5_1 < (l0.length : Int) := of_decide_eq_true (by first | (with_reducible assumption) | assumption)
                obtain ⟨ad102, e102, hx102_0⟩ := Kd.at_int HR0.out x5_1 p102 q102
                cases e102
                replace p102 := eq_true p102
                replace q102 := eq_true q102
                have p103 : 0 ≤ (x5_1 : Int) := of_decide_eq_true (by first | (with_reducible assumption) | assumption)
                have q103 : x5_1 < (l1.length : Int) := of_decide_eq_true (by first | (with_reducible assumption) | assumption)
                obtain ⟨ad103, e103, hx103_0⟩ := Kd.at_int HR1.out x5_1 p103 q103
                cases e103
                replace p103 := eq_true p103
                replace q103 := eq_true q103
                go_wp2
                repeat (go_quiet (fail); try go_wp2)
                go_ret
                exact ⟨by first | rfl | (simp; done) | (simp [*]; done), by repeat (first | exact Drawn0.refl _ | apply Drawn0.step)⟩
            · rw [if_neg c6] at H
              exact absurd H (by simp)
          · rw [if_neg c5] at H
            exact absurd H (by simp)
        · rw [if_neg c4] at H
          have c4b0 : decide (x5_1 < (l0.length : Int)) = false := decide_eq_false c4
          clear c4
          obtain rfl := Option.some.inj H
          go_wp2
          repeat (go_quiet (fail); try go_wp2)
          go_ret
          exact ⟨by first | rfl | (simp; done) | (simp [*]; done), by repeat (first | exact Drawn0.refl _ | apply Drawn0.step)⟩
  · rw [if_neg c3] at H
    have c3b0 : ((l0.length : Int) == (l1.length : Int)) = false := beq_eq_false_iff_ne.mpr c3
    have c3b1 : ((l0.length : Int) != (l1.length : Int)) = true := bne_iff_ne.mpr c3
    have c3b2 : (l0.length == l1.length) = false := by first | simpa using c3 | (simp at c3 ⊢; omega)
    obtain rfl := Option.some.inj H
    go_enter Try.func15, Try.ntmps15
    go_wp2
    repeat (go_quiet (fail); try go_wp2)
    go_ret
    exact ⟨by first | rfl | (simp; done) | (simp [*]; done), by repeat (first | exact Drawn0.refl _ | apply Drawn0.step)⟩

/-! ### undercroftlaw01_alive: function 7 -/
def undercroftlaw01_alive.f (k : Nat)  : Option (Bool) := (octets_Put.f 258 3).bind fun bt104 => ((octets_Unhex.f (⟨#[48, 97, 70]⟩ : ByteArray)).bind fun bt108 => ((undercroftlaw01_num.f bt104.2).bind fun t112 => (if t112 = 0 then ((undercroftplain_SameBytes.f k bt104.1 (([0, 1, 2] : List Int))).bind fun t116 => (if t116 = true then ((octets_Decimal.f (-7)).bind fun t117 => (if t117.toList = ([45, 55] : List UInt8) then ((undercroftlaw01_num.f bt108.2).bind fun t118 => (some (t118 == 8))) else (some false))) else (some false))) else (some false))))
theorem undercroftlaw01_alive.mono : ∀ k, LeO (undercroftlaw01_alive.f k ) (undercroftlaw01_alive.f (k + 1) ) := by
  intro  k
  unfold undercroftlaw01_alive.f
  repeat' first
      | (with_reducible exact undercroftplain_SameBytes.mono _ _ _)
      | (with_reducible exact LeO.refl _)
      | (with_reducible exact LeO.none _)
      | (with_reducible refine LeO.ite ?_ ?_)
      | (with_reducible refine LeO.bind ?_ (fun _ => ?_))
      | exact undercroftplain_SameBytes.mono _ _ _
      | exact LeO.none _
      | refine LeO.ite ?_ ?_
      | refine LeO.bind ?_ (fun _ => ?_)
set_option maxHeartbeats 8000000 in
set_option maxRecDepth 100000 in
theorem undercroftlaw01_alive.calls (k : Nat)  (r : Bool) (w : World) (h : undercroftlaw01_alive.f k  = some r) :
    Calls Try.prog 7 #[] w fun e w' => e = .returned (.bool r) ∧ Below w.heap.size w w' := by
  have HB := Aside0.mk (Below.refl w.heap.size w)
  have H : ((octets_Put.f 258 3).bind fun bt104 => ((octets_Unhex.f (⟨#[48, 97, 70]⟩ : ByteArray)).bind fun bt108 => ((undercroftlaw01_num.f bt104.2).bind fun t112 => (if t112 = 0 then ((undercroftplain_SameBytes.f k bt104.1 (([0, 1, 2] : List Int))).bind fun t116 => (if t116 = true then ((octets_Decimal.f (-7)).bind fun t117 => (if t117.toList = ([45, 55] : List UInt8) then ((undercroftlaw01_num.f bt108.2).bind fun t118 => (some (t118 == 8))) else (some false))) else (some false))) else (some false))))) = some r := h
  clear h
  replace H := Option.bind_eq_some_iff.mp H
  obtain ⟨⟨t104, t105⟩, A10, H⟩ := H
  replace H : ((octets_Unhex.f (⟨#[48, 97, 70]⟩ : ByteArray)).bind fun bt108 => ((undercroftlaw01_num.f t105).bind fun t112 => (if t112 = 0 then ((undercroftplain_SameBytes.f k t104 (([0, 1, 2] : List Int))).bind fun t116 => (if t116 = true then ((octets_Decimal.f (-7)).bind fun t117 => (if t117.toList = ([45, 55] : List UInt8) then ((undercroftlaw01_num.f bt108.2).bind fun t118 => (some (t118 == 8))) else (some false))) else (some false))) else (some false)))) = some r := H
  have A1 := Aside0.mk A10
  clear A10
  replace H := Option.bind_eq_some_iff.mp H
  obtain ⟨⟨t108, t109⟩, A20, H⟩ := H
  replace H : ((undercroftlaw01_num.f t105).bind fun t112 => (if t112 = 0 then ((undercroftplain_SameBytes.f k t104 (([0, 1, 2] : List Int))).bind fun t116 => (if t116 = true then ((octets_Decimal.f (-7)).bind fun t117 => (if t117.toList = ([45, 55] : List UInt8) then ((undercroftlaw01_num.f t109).bind fun t118 => (some (t118 == 8))) else (some false))) else (some false))) else (some false))) = some r := H
  have A2 := Aside0.mk A20
  clear A20
  replace H := Option.bind_eq_some_iff.mp H
  obtain ⟨t112, A30, H⟩ := H
  replace H : (if t112 = 0 then ((undercroftplain_SameBytes.f k t104 (([0, 1, 2] : List Int))).bind fun t116 => (if t116 = true then ((octets_Decimal.f (-7)).bind fun t117 => (if t117.toList = ([45, 55] : List UInt8) then ((undercroftlaw01_num.f t109).bind fun t118 => (some (t118 == 8))) else (some false))) else (some false))) else (some false)) = some r := H
  have A3 := Aside0.mk A30
  clear A30
  by_cases c4 : t112 = 0
  · rw [if_pos c4] at H
    have c4b0 : (t112 == 0) = true := beq_iff_eq.mpr c4
    have c4b1 : (t112 != 0) = false := bne_eq_false_iff_eq.mpr c4
    clear c4
    obtain ⟨y113, hy113⟩ : ∃ y_ : List Int, y_ = (([0, 1, 2] : List Int)) := ⟨_, rfl⟩
    replace H : ((undercroftplain_SameBytes.f k t104 y113).bind fun t116 => (if t116 = true then ((octets_Decimal.f (-7)).bind fun t117 => (if t117.toList = ([45, 55] : List UInt8) then ((undercroftlaw01_num.f t109).bind fun t118 => (some (t118 == 8))) else (some false))) else (some false))) = some r := by first | (rw [hy113]; with_reducible exact H) | (have H2_ := (Option.bind_some _ _).symm.trans H; rw [hy113]; with_reducible exact H2_) | (have H2_ := (Option.bind_some _ _).symm.trans H; with_reducible exact H2_) | with_reducible exact H | (rw [hy113]; exact H) | exact H
    have Ny113 := Aside0.mk hy113
    clear hy113
    replace H := Option.bind_eq_some_iff.mp H
    obtain ⟨t116, A50, H⟩ := H
    replace H : (if t116 = true then ((octets_Decimal.f (-7)).bind fun t117 => (if t117.toList = ([45, 55] : List UInt8) then ((undercroftlaw01_num.f t109).bind fun t118 => (some (t118 == 8))) else (some false))) else (some false)) = some r := H
    have A5 := Aside0.mk A50
    clear A50
    by_cases c6 : t116 = true
    · subst c6
      have H1 : ((octets_Decimal.f (-7)).bind fun t117 => (if t117.toList = ([45, 55] : List UInt8) then ((undercroftlaw01_num.f t109).bind fun t118 => (some (t118 == 8))) else (some false))) = some r := by rw [if_pos rfl] at H; exact H
      clear H
      have H := H1
      clear H1
      replace H := Option.bind_eq_some_iff.mp H
      obtain ⟨t117, A70, H⟩ := H
      replace H : (if t117.toList = ([45, 55] : List UInt8) then ((undercroftlaw01_num.f t109).bind fun t118 => (some (t118 == 8))) else (some false)) = some r := H
      have A7 := Aside0.mk A70
      clear A70
      by_cases c8 : t117.toList = ([45, 55] : List UInt8)
      · rw [if_pos c8] at H
        have c8b0 : (t117.toList == ([45, 55] : List UInt8)) = true := beq_iff_eq.mpr c8
        have c8b1 : (t117.toList != ([45, 55] : List UInt8)) = false := bne_eq_false_iff_eq.mpr c8
        clear c8
        replace H := Option.bind_eq_some_iff.mp H
        obtain ⟨t118, A90, H⟩ := H
        replace H : (some (t118 == 8)) = some r := H
        have A9 := Aside0.mk A90
        clear A90
        obtain rfl := Option.some.inj H
        go_enter Try.func7, Try.ntmps7
        go_wp2_with (first | ((with_reducible refine gate_callee (f := 8) rfl ?_); refine goesL_ (some 6) rfl rfl Try.func8 (by kernel_rfl) rfl #[.int .u64 258, .int .i64 3] rfl (by (try simp only [List.map_toArray, List.map_cons, List.map_nil]); first | done | rfl | (simp only [List.length_drop, List.length_take]; rfl)) ?_; (with_reducible refine (octets_Put.calls 258 3 t104 t105 _ A1.out).mono ?_); rintro e w10 ⟨v106, rfl, ho0, hb⟩; refine ⟨_, rfl, ?_⟩; have n0_ := Aside0.mk (Kd.R_lower ho0 (below_size (by repeat (first | (with_reducible first | exact HB.out | apply below_alloc | apply pw_below_drewN | apply below_drew1) | exact HB.out)))); have n1_ := Aside0.mk (below_step (by repeat (first | (with_reducible first | exact HB.out | apply below_alloc | apply pw_below_drewN | apply below_drew1) | exact HB.out)) hb); clear HB; have HO107 := n0_; have HB := n1_; clear n0_ n1_; (try clear hb); (try clear hb2); (try clear hk); (try clear hi); (try clear ho0)) | ((with_reducible refine gate_callee (f := 11) rfl ?_); refine goesL_ (some 10) rfl rfl Try.func11 (by kernel_rfl) rfl #[.string (⟨#[48, 97, 70]⟩ : ByteArray)] rfl (by (try simp only [List.map_toArray, List.map_cons, List.map_nil]); first | done | rfl | (simp only [List.length_drop, List.length_take]; rfl)) ?_; (with_reducible refine (octets_Unhex.calls (⟨#[48, 97, 70]⟩ : ByteArray) t108 t109 _ A2.out).mono ?_); rintro e w11 ⟨v110, rfl, ho0, hb⟩; refine ⟨_, rfl, ?_⟩; have n0_ := Aside0.mk (Kd.R_elder' (by (with_reducible repeat (first | apply Kd.R_alloc | apply Kd.R_drewN | apply Kd.R_drew)); exact HO107.out) (Kd.R_base ho0) hb); have n1_ := Aside0.mk (Kd.R_lower (Kd.R_new' ho0 (Kd.R_lt (by (with_reducible repeat (first | apply Kd.R_alloc | apply Kd.R_drewN | apply Kd.R_drew)); exact HO107.out))) (below_size (by repeat (first | (with_reducible first | exact HB.out | apply below_alloc | apply pw_below_drewN | apply below_drew1) | exact HB.out)))); have n2_ := Aside0.mk (below_step (by repeat (first | (with_reducible first | exact HB.out | apply below_alloc | apply pw_below_drewN | apply below_drew1) | exact HB.out)) hb); clear HO107; clear HB; have HO107 := n0_; have HO111 := n1_; have HB := n2_; clear n0_ n1_ n2_; (try clear hb); (try clear hb2); (try clear hk); (try clear hi); (try clear ho0)) | ((with_reducible refine gate_callee (f := 9) rfl ?_); refine goesL_ (some 14) rfl rfl Try.func9 (by kernel_rfl) rfl #[.int .i64 t105] rfl (by (try simp only [List.map_toArray, List.map_cons, List.map_nil]); first | done | rfl | (simp only [List.length_drop, List.length_take]; rfl)) ?_; (with_reducible refine (undercroftlaw01_num.calls t105 t112 _ A3.out).mono ?_); rintro e w' ⟨rfl, ⟨nd, rfl⟩⟩; refine ⟨_, rfl, ?_⟩) | ((with_reducible refine gate_dst (N := 18) rfl ?_); (try (refine gate_guard (by rfl) ?_; dsimp only)); refine Kd.R_lit (Kd.int .u8) _ 5 ?hg (N := 18) ?hd (xs := ([0, 1, 2] : List Int)) (inner := [.int .u8 0, .int .u8 1, .int .u8 2]) (ok := fun _ => True) (okp := fun _ => True) ?hr ?hp (fun _ hk => hk) trivial (Below.refl _ _) (Nat.le_refl _) (by simp) ?_; (case hd => rfl); (case hg => rfl); (case hr => first | (go_simp; done) | (go_simp; rfl)); (case hp => exact (Reps.one (show Kd.M (Kd.int .u8) _ _ _ 0 [.int .u8 0] from rfl) (Reps.one (show Kd.M (Kd.int .u8) _ _ _ 1 [.int .u8 1] from rfl) (Reps.one (show Kd.M (Kd.int .u8) _ _ _ 2 [.int .u8 2] from rfl) (Reps.none _ _))))); intro v114 w12 ho13 hb hg_ hnew_; clear hg_ hnew_; (first | rw [← Ny113.out] at ho13 | (simp only [Int.reduceToNat] at ho13; rw [← Ny113.out] at ho13)); have n0_ := Aside0.mk (Kd.R_elder' (by (with_reducible repeat (first | apply Kd.R_alloc | apply Kd.R_drewN | apply Kd.R_drew)); exact HO107.out) (Kd.R_base ho13) hb); have n1_ := Aside0.mk (Kd.R_elder' (by (with_reducible repeat (first | apply Kd.R_alloc | apply Kd.R_drewN | apply Kd.R_drew)); exact HO111.out) (Kd.R_base ho13) hb); have n2_ := Aside0.mk (Kd.R_lower (Kd.R_new' (Kd.R_new' ho13 (Kd.R_lt (by (with_reducible repeat (first | apply Kd.R_alloc | apply Kd.R_drewN | apply Kd.R_drew)); exact HO107.out))) (Kd.R_lt (by (with_reducible repeat (first | apply Kd.R_alloc | apply Kd.R_drewN | apply Kd.R_drew)); exact HO111.out))) (below_size (by repeat (first | (with_reducible first | exact HB.out | apply below_alloc | apply pw_below_drewN | apply below_drew1) | exact HB.out)))); have n3_ := Aside0.mk (below_step (by repeat (first | (with_reducible first | exact HB.out | apply below_alloc | apply pw_below_drewN | apply below_drew1) | exact HB.out)) hb); clear HO107; clear HO111; clear HB; have HO107 := n0_; have HO111 := n1_; have HO115 := n2_; have HB := n3_; clear n0_ n1_ n2_ n3_; clear hb ho13; obtain ⟨Ao14, co14, eo14⟩ := Kd.R_slice HO107.out; subst eo14; obtain ⟨Ao15, co15, eo15⟩ := Kd.R_slice HO115.out; subst eo15) | (go_at_call 15; (with_reducible refine (undercroftplain_SameBytes.calls k _ _ t104 _ _ y113 true _ ?side1 ?side2 ?side3 ?side4 A5.out).mono ?_); (case side1 => repeat (first | exact (Kd.R_reads' HO107.out).2.2 | (with_reducible refine Kd.C_alloc ?_ _) | (with_reducible refine Kd.C_drewN ?_ _) | (with_reducible refine Kd.C_drew ?_))); (case side2 => exact (Kd.R_reads' HO107.out).2.1); (case side3 => repeat (first | exact (Kd.R_reads' HO115.out).2.2 | (with_reducible refine Kd.C_alloc ?_ _) | (with_reducible refine Kd.C_drewN ?_ _) | (with_reducible refine Kd.C_drew ?_))); (case side4 => exact (Kd.R_reads' HO115.out).2.1); rintro e w' ⟨rfl, ⟨nd, rfl⟩⟩) | (go_at_call 10; (with_reducible refine (octets_Decimal.calls (-7) t117 _ A7.out).mono ?_); rintro e w16 ⟨rfl, hb⟩; have n0_ := Aside0.mk (Kd.R_below (by (with_reducible repeat (first | apply Kd.R_alloc | apply Kd.R_drewN | apply Kd.R_drew)); exact HO107.out) hb); have n1_ := Aside0.mk (Kd.R_below (by (with_reducible repeat (first | apply Kd.R_alloc | apply Kd.R_drewN | apply Kd.R_drew)); exact HO111.out) hb); have n2_ := Aside0.mk (Kd.R_below (by (with_reducible repeat (first | apply Kd.R_alloc | apply Kd.R_drewN | apply Kd.R_drew)); exact HO115.out) hb); have n3_ := Aside0.mk (below_step (by repeat (first | (with_reducible first | exact HB.out | apply below_alloc | apply pw_below_drewN | apply below_drew1) | exact HB.out)) hb); clear HO107; clear HO111; clear HO115; clear HB; have HO107 := n0_; have HO111 := n1_; have HO115 := n2_; have HB := n3_; clear n0_ n1_ n2_ n3_; (try clear hb); (try clear hb2); (try clear hk); (try clear hi)) | (go_at_call 9; (with_reducible refine (undercroftlaw01_num.calls t109 t118 _ A9.out).mono ?_); rintro e w' ⟨rfl, ⟨nd, rfl⟩⟩))
        go_ret
        exact ⟨by first | rfl | (simp [errW_none, errW_some] <;> rfl) | (simp [*, errW_none, errW_some] <;> rfl), by repeat (first | (with_reducible first | exact HB.out | apply below_alloc | apply pw_below_drewN | apply below_drew1) | exact HB.out)⟩
      · rw [if_neg c8] at H
        have c8b0 : (t117.toList == ([45, 55] : List UInt8)) = false := beq_eq_false_iff_ne.mpr c8
        have c8b1 : (t117.toList != ([45, 55] : List UInt8)) = true := bne_iff_ne.mpr c8
        obtain rfl := Option.some.inj H
        go_enter Try.func7, Try.ntmps7
        go_wp2_with (first | ((with_reducible refine gate_callee (f := 8) rfl ?_); refine goesL_ (some 6) rfl rfl Try.func8 (by kernel_rfl) rfl #[.int .u64 258, .int .i64 3] rfl (by (try simp only [List.map_toArray, List.map_cons, List.map_nil]); first | done | rfl | (simp only [List.length_drop, List.length_take]; rfl)) ?_; (with_reducible refine (octets_Put.calls 258 3 t104 t105 _ A1.out).mono ?_); rintro e w17 ⟨v106, rfl, ho0, hb⟩; refine ⟨_, rfl, ?_⟩; have n0_ := Aside0.mk (Kd.R_lower ho0 (below_size (by repeat (first | (with_reducible first | exact HB.out | apply below_alloc | apply pw_below_drewN | apply below_drew1) | exact HB.out)))); have n1_ := Aside0.mk (below_step (by repeat (first | (with_reducible first | exact HB.out | apply below_alloc | apply pw_below_drewN | apply below_drew1) | exact HB.out)) hb); clear HB; have HO107 := n0_; have HB := n1_; clear n0_ n1_; (try clear hb); (try clear hb2); (try clear hk); (try clear hi); (try clear ho0)) | ((with_reducible refine gate_callee (f := 11) rfl ?_); refine goesL_ (some 10) rfl rfl Try.func11 (by kernel_rfl) rfl #[.string (⟨#[48, 97, 70]⟩ : ByteArray)] rfl (by (try simp only [List.map_toArray, List.map_cons, List.map_nil]); first | done | rfl | (simp only [List.length_drop, List.length_take]; rfl)) ?_; (with_reducible refine (octets_Unhex.calls (⟨#[48, 97, 70]⟩ : ByteArray) t108 t109 _ A2.out).mono ?_); rintro e w18 ⟨v110, rfl, ho0, hb⟩; refine ⟨_, rfl, ?_⟩; have n0_ := Aside0.mk (Kd.R_elder' (by (with_reducible repeat (first | apply Kd.R_alloc | apply Kd.R_drewN | apply Kd.R_drew)); exact HO107.out) (Kd.R_base ho0) hb); have n1_ := Aside0.mk (Kd.R_lower (Kd.R_new' ho0 (Kd.R_lt (by (with_reducible repeat (first | apply Kd.R_alloc | apply Kd.R_drewN | apply Kd.R_drew)); exact HO107.out))) (below_size (by repeat (first | (with_reducible first | exact HB.out | apply below_alloc | apply pw_below_drewN | apply below_drew1) | exact HB.out)))); have n2_ := Aside0.mk (below_step (by repeat (first | (with_reducible first | exact HB.out | apply below_alloc | apply pw_below_drewN | apply below_drew1) | exact HB.out)) hb); clear HO107; clear HB; have HO107 := n0_; have HO111 := n1_; have HB := n2_; clear n0_ n1_ n2_; (try clear hb); (try clear hb2); (try clear hk); (try clear hi); (try clear ho0)) | ((with_reducible refine gate_callee (f := 9) rfl ?_); refine goesL_ (some 14) rfl rfl Try.func9 (by kernel_rfl) rfl #[.int .i64 t105] rfl (by (try simp only [List.map_toArray, List.map_cons, List.map_nil]); first | done | rfl | (simp only [List.length_drop, List.length_take]; rfl)) ?_; (with_reducible refine (undercroftlaw01_num.calls t105 t112 _ A3.out).mono ?_); rintro e w' ⟨rfl, ⟨nd, rfl⟩⟩; refine ⟨_, rfl, ?_⟩) | ((with_reducible refine gate_dst (N := 18) rfl ?_); (try (refine gate_guard (by rfl) ?_; dsimp only)); refine Kd.R_lit (Kd.int .u8) _ 5 ?hg (N := 18) ?hd (xs := ([0, 1, 2] : List Int)) (inner := [.int .u8 0, .int .u8 1, .int .u8 2]) (ok := fun _ => True) (okp := fun _ => True) ?hr ?hp (fun _ hk => hk) trivial (Below.refl _ _) (Nat.le_refl _) (by simp) ?_; (case hd => rfl); (case hg => rfl); (case hr => first | (go_simp; done) | (go_simp; rfl)); (case hp => exact (Reps.one (show Kd.M (Kd.int .u8) _ _ _ 0 [.int .u8 0] from rfl) (Reps.one (show Kd.M (Kd.int .u8) _ _ _ 1 [.int .u8 1] from rfl) (Reps.one (show Kd.M (Kd.int .u8) _ _ _ 2 [.int .u8 2] from rfl) (Reps.none _ _))))); intro v114 w19 ho20 hb hg_ hnew_; clear hg_ hnew_; (first | rw [← Ny113.out] at ho20 | (simp only [Int.reduceToNat] at ho20; rw [← Ny113.out] at ho20)); have n0_ := Aside0.mk (Kd.R_elder' (by (with_reducible repeat (first | apply Kd.R_alloc | apply Kd.R_drewN | apply Kd.R_drew)); exact HO107.out) (Kd.R_base ho20) hb); have n1_ := Aside0.mk (Kd.R_elder' (by (with_reducible repeat (first | apply Kd.R_alloc | apply Kd.R_drewN | apply Kd.R_drew)); exact HO111.out) (Kd.R_base ho20) hb); have n2_ := Aside0.mk (Kd.R_lower (Kd.R_new' (Kd.R_new' ho20 (Kd.R_lt (by (with_reducible repeat (first | apply Kd.R_alloc | apply Kd.R_drewN | apply Kd.R_drew)); exact HO107.out))) (Kd.R_lt (by (with_reducible repeat (first | apply Kd.R_alloc | apply Kd.R_drewN | apply Kd.R_drew)); exact HO111.out))) (below_size (by repeat (first | (with_reducible first | exact HB.out | apply below_alloc | apply pw_below_drewN | apply below_drew1) | exact HB.out)))); have n3_ := Aside0.mk (below_step (by repeat (first | (with_reducible first | exact HB.out | apply below_alloc | apply pw_below_drewN | apply below_drew1) | exact HB.out)) hb); clear HO107; clear HO111; clear HB; have HO107 := n0_; have HO111 := n1_; have HO115 := n2_; have HB := n3_; clear n0_ n1_ n2_ n3_; clear hb ho20; obtain ⟨Ao21, co21, eo21⟩ := Kd.R_slice HO107.out; subst eo21; obtain ⟨Ao22, co22, eo22⟩ := Kd.R_slice HO115.out; subst eo22) | (go_at_call 15; (with_reducible refine (undercroftplain_SameBytes.calls k _ _ t104 _ _ y113 true _ ?side1 ?side2 ?side3 ?side4 A5.out).mono ?_); (case side1 => repeat (first | exact (Kd.R_reads' HO107.out).2.2 | (with_reducible refine Kd.C_alloc ?_ _) | (with_reducible refine Kd.C_drewN ?_ _) | (with_reducible refine Kd.C_drew ?_))); (case side2 => exact (Kd.R_reads' HO107.out).2.1); (case side3 => repeat (first | exact (Kd.R_reads' HO115.out).2.2 | (with_reducible refine Kd.C_alloc ?_ _) | (with_reducible refine Kd.C_drewN ?_ _) | (with_reducible refine Kd.C_drew ?_))); (case side4 => exact (Kd.R_reads' HO115.out).2.1); rintro e w' ⟨rfl, ⟨nd, rfl⟩⟩) | (go_at_call 10; (with_reducible refine (octets_Decimal.calls (-7) t117 _ A7.out).mono ?_); rintro e w23 ⟨rfl, hb⟩; have n0_ := Aside0.mk (Kd.R_below (by (with_reducible repeat (first | apply Kd.R_alloc | apply Kd.R_drewN | apply Kd.R_drew)); exact HO107.out) hb); have n1_ := Aside0.mk (Kd.R_below (by (with_reducible repeat (first | apply Kd.R_alloc | apply Kd.R_drewN | apply Kd.R_drew)); exact HO111.out) hb); have n2_ := Aside0.mk (Kd.R_below (by (with_reducible repeat (first | apply Kd.R_alloc | apply Kd.R_drewN | apply Kd.R_drew)); exact HO115.out) hb); have n3_ := Aside0.mk (below_step (by repeat (first | (with_reducible first | exact HB.out | apply below_alloc | apply pw_below_drewN | apply below_drew1) | exact HB.out)) hb); clear HO107; clear HO111; clear HO115; clear HB; have HO107 := n0_; have HO111 := n1_; have HO115 := n2_; have HB := n3_; clear n0_ n1_ n2_ n3_; (try clear hb); (try clear hb2); (try clear hk); (try clear hi)))
        go_ret
        exact ⟨by first | rfl | (simp [errW_none, errW_some] <;> rfl) | (simp [*, errW_none, errW_some] <;> rfl), by repeat (first | (with_reducible first | exact HB.out | apply below_alloc | apply pw_below_drewN | apply below_drew1) | exact HB.out)⟩
    · replace c6 := Bool.eq_false_iff.mpr c6
      subst c6
      have H1 : (some false) = some r := by rw [if_neg (show ¬ (false = true) by decide)] at H; exact H
      clear H
      have H := H1
      clear H1
      obtain rfl := Option.some.inj H
      go_enter Try.func7, Try.ntmps7
      go_wp2_with (first | ((with_reducible refine gate_callee (f := 8) rfl ?_); refine goesL_ (some 6) rfl rfl Try.func8 (by kernel_rfl) rfl #[.int .u64 258, .int .i64 3] rfl (by (try simp only [List.map_toArray, List.map_cons, List.map_nil]); first | done | rfl | (simp only [List.length_drop, List.length_take]; rfl)) ?_; (with_reducible refine (octets_Put.calls 258 3 t104 t105 _ A1.out).mono ?_); rintro e w24 ⟨v106, rfl, ho0, hb⟩; refine ⟨_, rfl, ?_⟩; have n0_ := Aside0.mk (Kd.R_lower ho0 (below_size (by repeat (first | (with_reducible first | exact HB.out | apply below_alloc | apply pw_below_drewN | apply below_drew1) | exact HB.out)))); have n1_ := Aside0.mk (below_step (by repeat (first | (with_reducible first | exact HB.out | apply below_alloc | apply pw_below_drewN | apply below_drew1) | exact HB.out)) hb); clear HB; have HO107 := n0_; have HB := n1_; clear n0_ n1_; (try clear hb); (try clear hb2); (try clear hk); (try clear hi); (try clear ho0)) | ((with_reducible refine gate_callee (f := 11) rfl ?_); refine goesL_ (some 10) rfl rfl Try.func11 (by kernel_rfl) rfl #[.string (⟨#[48, 97, 70]⟩ : ByteArray)] rfl (by (try simp only [List.map_toArray, List.map_cons, List.map_nil]); first | done | rfl | (simp only [List.length_drop, List.length_take]; rfl)) ?_; (with_reducible refine (octets_Unhex.calls (⟨#[48, 97, 70]⟩ : ByteArray) t108 t109 _ A2.out).mono ?_); rintro e w25 ⟨v110, rfl, ho0, hb⟩; refine ⟨_, rfl, ?_⟩; have n0_ := Aside0.mk (Kd.R_elder' (by (with_reducible repeat (first | apply Kd.R_alloc | apply Kd.R_drewN | apply Kd.R_drew)); exact HO107.out) (Kd.R_base ho0) hb); have n1_ := Aside0.mk (Kd.R_lower (Kd.R_new' ho0 (Kd.R_lt (by (with_reducible repeat (first | apply Kd.R_alloc | apply Kd.R_drewN | apply Kd.R_drew)); exact HO107.out))) (below_size (by repeat (first | (with_reducible first | exact HB.out | apply below_alloc | apply pw_below_drewN | apply below_drew1) | exact HB.out)))); have n2_ := Aside0.mk (below_step (by repeat (first | (with_reducible first | exact HB.out | apply below_alloc | apply pw_below_drewN | apply below_drew1) | exact HB.out)) hb); clear HO107; clear HB; have HO107 := n0_; have HO111 := n1_; have HB := n2_; clear n0_ n1_ n2_; (try clear hb); (try clear hb2); (try clear hk); (try clear hi); (try clear ho0)) | ((with_reducible refine gate_callee (f := 9) rfl ?_); refine goesL_ (some 14) rfl rfl Try.func9 (by kernel_rfl) rfl #[.int .i64 t105] rfl (by (try simp only [List.map_toArray, List.map_cons, List.map_nil]); first | done | rfl | (simp only [List.length_drop, List.length_take]; rfl)) ?_; (with_reducible refine (undercroftlaw01_num.calls t105 t112 _ A3.out).mono ?_); rintro e w' ⟨rfl, ⟨nd, rfl⟩⟩; refine ⟨_, rfl, ?_⟩) | ((with_reducible refine gate_dst (N := 18) rfl ?_); (try (refine gate_guard (by rfl) ?_; dsimp only)); refine Kd.R_lit (Kd.int .u8) _ 5 ?hg (N := 18) ?hd (xs := ([0, 1, 2] : List Int)) (inner := [.int .u8 0, .int .u8 1, .int .u8 2]) (ok := fun _ => True) (okp := fun _ => True) ?hr ?hp (fun _ hk => hk) trivial (Below.refl _ _) (Nat.le_refl _) (by simp) ?_; (case hd => rfl); (case hg => rfl); (case hr => first | (go_simp; done) | (go_simp; rfl)); (case hp => exact (Reps.one (show Kd.M (Kd.int .u8) _ _ _ 0 [.int .u8 0] from rfl) (Reps.one (show Kd.M (Kd.int .u8) _ _ _ 1 [.int .u8 1] from rfl) (Reps.one (show Kd.M (Kd.int .u8) _ _ _ 2 [.int .u8 2] from rfl) (Reps.none _ _))))); intro v114 w26 ho27 hb hg_ hnew_; clear hg_ hnew_; (first | rw [← Ny113.out] at ho27 | (simp only [Int.reduceToNat] at ho27; rw [← Ny113.out] at ho27)); have n0_ := Aside0.mk (Kd.R_elder' (by (with_reducible repeat (first | apply Kd.R_alloc | apply Kd.R_drewN | apply Kd.R_drew)); exact HO107.out) (Kd.R_base ho27) hb); have n1_ := Aside0.mk (Kd.R_elder' (by (with_reducible repeat (first | apply Kd.R_alloc | apply Kd.R_drewN | apply Kd.R_drew)); exact HO111.out) (Kd.R_base ho27) hb); have n2_ := Aside0.mk (Kd.R_lower (Kd.R_new' (Kd.R_new' ho27 (Kd.R_lt (by (with_reducible repeat (first | apply Kd.R_alloc | apply Kd.R_drewN | apply Kd.R_drew)); exact HO107.out))) (Kd.R_lt (by (with_reducible repeat (first | apply Kd.R_alloc | apply Kd.R_drewN | apply Kd.R_drew)); exact HO111.out))) (below_size (by repeat (first | (with_reducible first | exact HB.out | apply below_alloc | apply pw_below_drewN | apply below_drew1) | exact HB.out)))); have n3_ := Aside0.mk (below_step (by repeat (first | (with_reducible first | exact HB.out | apply below_alloc | apply pw_below_drewN | apply below_drew1) | exact HB.out)) hb); clear HO107; clear HO111; clear HB; have HO107 := n0_; have HO111 := n1_; have HO115 := n2_; have HB := n3_; clear n0_ n1_ n2_ n3_; clear hb ho27; obtain ⟨Ao28, co28, eo28⟩ := Kd.R_slice HO107.out; subst eo28; obtain ⟨Ao29, co29, eo29⟩ := Kd.R_slice HO115.out; subst eo29) | (go_at_call 15; (with_reducible refine (undercroftplain_SameBytes.calls k _ _ t104 _ _ y113 false _ ?side1 ?side2 ?side3 ?side4 A5.out).mono ?_); (case side1 => repeat (first | exact (Kd.R_reads' HO107.out).2.2 | (with_reducible refine Kd.C_alloc ?_ _) | (with_reducible refine Kd.C_drewN ?_ _) | (with_reducible refine Kd.C_drew ?_))); (case side2 => exact (Kd.R_reads' HO107.out).2.1); (case side3 => repeat (first | exact (Kd.R_reads' HO115.out).2.2 | (with_reducible refine Kd.C_alloc ?_ _) | (with_reducible refine Kd.C_drewN ?_ _) | (with_reducible refine Kd.C_drew ?_))); (case side4 => exact (Kd.R_reads' HO115.out).2.1); rintro e w' ⟨rfl, ⟨nd, rfl⟩⟩))
      go_ret
      exact ⟨by first | rfl | (simp [errW_none, errW_some] <;> rfl) | (simp [*, errW_none, errW_some] <;> rfl), by repeat (first | (with_reducible first | exact HB.out | apply below_alloc | apply pw_below_drewN | apply below_drew1) | exact HB.out)⟩
  · rw [if_neg c4] at H
    have c4b0 : (t112 == 0) = false := beq_eq_false_iff_ne.mpr c4
    have c4b1 : (t112 != 0) = true := bne_iff_ne.mpr c4
    obtain rfl := Option.some.inj H
    go_enter Try.func7, Try.ntmps7
    go_wp2_with (first | ((with_reducible refine gate_callee (f := 8) rfl ?_); refine goesL_ (some 6) rfl rfl Try.func8 (by kernel_rfl) rfl #[.int .u64 258, .int .i64 3] rfl (by (try simp only [List.map_toArray, List.map_cons, List.map_nil]); first | done | rfl | (simp only [List.length_drop, List.length_take]; rfl)) ?_; (with_reducible refine (octets_Put.calls 258 3 t104 t105 _ A1.out).mono ?_); rintro e w30 ⟨v106, rfl, ho0, hb⟩; refine ⟨_, rfl, ?_⟩; have n0_ := Aside0.mk (Kd.R_lower ho0 (below_size (by repeat (first | (with_reducible first | exact HB.out | apply below_alloc | apply pw_below_drewN | apply below_drew1) | exact HB.out)))); have n1_ := Aside0.mk (below_step (by repeat (first | (with_reducible first | exact HB.out | apply below_alloc | apply pw_below_drewN | apply below_drew1) | exact HB.out)) hb); clear HB; have HO107 := n0_; have HB := n1_; clear n0_ n1_; (try clear hb); (try clear hb2); (try clear hk); (try clear hi); (try clear ho0)) | ((with_reducible refine gate_callee (f := 11) rfl ?_); refine goesL_ (some 10) rfl rfl Try.func11 (by kernel_rfl) rfl #[.string (⟨#[48, 97, 70]⟩ : ByteArray)] rfl (by (try simp only [List.map_toArray, List.map_cons, List.map_nil]); first | done | rfl | (simp only [List.length_drop, List.length_take]; rfl)) ?_; (with_reducible refine (octets_Unhex.calls (⟨#[48, 97, 70]⟩ : ByteArray) t108 t109 _ A2.out).mono ?_); rintro e w31 ⟨v110, rfl, ho0, hb⟩; refine ⟨_, rfl, ?_⟩; have n0_ := Aside0.mk (Kd.R_elder' (by (with_reducible repeat (first | apply Kd.R_alloc | apply Kd.R_drewN | apply Kd.R_drew)); exact HO107.out) (Kd.R_base ho0) hb); have n1_ := Aside0.mk (Kd.R_lower (Kd.R_new' ho0 (Kd.R_lt (by (with_reducible repeat (first | apply Kd.R_alloc | apply Kd.R_drewN | apply Kd.R_drew)); exact HO107.out))) (below_size (by repeat (first | (with_reducible first | exact HB.out | apply below_alloc | apply pw_below_drewN | apply below_drew1) | exact HB.out)))); have n2_ := Aside0.mk (below_step (by repeat (first | (with_reducible first | exact HB.out | apply below_alloc | apply pw_below_drewN | apply below_drew1) | exact HB.out)) hb); clear HO107; clear HB; have HO107 := n0_; have HO111 := n1_; have HB := n2_; clear n0_ n1_ n2_; (try clear hb); (try clear hb2); (try clear hk); (try clear hi); (try clear ho0)) | ((with_reducible refine gate_callee (f := 9) rfl ?_); refine goesL_ (some 14) rfl rfl Try.func9 (by kernel_rfl) rfl #[.int .i64 t105] rfl (by (try simp only [List.map_toArray, List.map_cons, List.map_nil]); first | done | rfl | (simp only [List.length_drop, List.length_take]; rfl)) ?_; (with_reducible refine (undercroftlaw01_num.calls t105 t112 _ A3.out).mono ?_); rintro e w' ⟨rfl, ⟨nd, rfl⟩⟩; refine ⟨_, rfl, ?_⟩))
    go_ret
    exact ⟨by first | rfl | (simp [errW_none, errW_some] <;> rfl) | (simp [*, errW_none, errW_some] <;> rfl), by repeat (first | (with_reducible first | exact HB.out | apply below_alloc | apply pw_below_drewN | apply below_drew1) | exact HB.out)⟩

/-! ### undercroftref01_worth: function 25 -/
mutual
def undercroftref01_worth.j0 : Nat → Int → Bool → Option (Int)
  | 0, _, _ => none
  | k + 1, x0, x3 => if x3 = true then (some ((x0 - 48) % 256)) else (if x0 ≥ 97 then (undercroftref01_worth.j1 k x0 (decide (x0 ≤ 102))) else (undercroftref01_worth.j1 k x0 false))
def undercroftref01_worth.j1 : Nat → Int → Bool → Option (Int)
  | 0, _, _ => none
  | k + 1, x0, x13 => if x13 = true then (some (((x0 - 97) % 256) + 10)) else (if x0 ≥ 65 then (if x0 ≤ 70 then (some (((x0 - 65) % 256) + 10)) else (some (-1))) else (some (-1)))
end
def undercroftref01_worth.f (k : Nat) (a0 : Int) : Option (Int) := if a0 ≥ 48 then (undercroftref01_worth.j0 k a0 (decide (a0 ≤ 57))) else (undercroftref01_worth.j0 k a0 false)
theorem undercroftref01_worth.mono_l : ∀ k, (∀ y0 y1, LeO (undercroftref01_worth.j0 k y0 y1) (undercroftref01_worth.j0 (k + 1) y0 y1)) ∧ (∀ y0 y1, LeO (undercroftref01_worth.j1 k y0 y1) (undercroftref01_worth.j1 (k + 1) y0 y1))
  | 0 => ⟨fun _ _ r h => by simp [undercroftref01_worth.j0] at h, fun _ _ r h => by simp [undercroftref01_worth.j1] at h⟩
  | k + 1 => by
    obtain ⟨ih0, ih1⟩ := undercroftref01_worth.mono_l k
    refine ⟨?_, ?_⟩
    · intro y0 y1
      unfold undercroftref01_worth.j0
      repeat' first
      | (with_reducible exact ih0 _ _)
      | (with_reducible exact ih1 _ _)
      | (with_reducible exact LeO.refl _)
      | (with_reducible exact LeO.none _)
      | (with_reducible refine LeO.ite ?_ ?_)
      | (with_reducible refine LeO.bind ?_ (fun _ => ?_))
      | exact ih0 _ _
      | exact ih1 _ _
      | exact LeO.none _
      | refine LeO.ite ?_ ?_
      | refine LeO.bind ?_ (fun _ => ?_)
    · intro y0 y1
      unfold undercroftref01_worth.j1
      repeat' first
      | (with_reducible exact ih0 _ _)
      | (with_reducible exact ih1 _ _)
      | (with_reducible exact LeO.refl _)
      | (with_reducible exact LeO.none _)
      | (with_reducible refine LeO.ite ?_ ?_)
      | (with_reducible refine LeO.bind ?_ (fun _ => ?_))
      | exact ih0 _ _
      | exact ih1 _ _
      | exact LeO.none _
      | refine LeO.ite ?_ ?_
      | refine LeO.bind ?_ (fun _ => ?_)
theorem undercroftref01_worth.mono : ∀ a0 k, LeO (undercroftref01_worth.f k a0) (undercroftref01_worth.f (k + 1) a0) := by
  intro a0 k
  obtain ⟨ih0, ih1⟩ := undercroftref01_worth.mono_l k
  unfold undercroftref01_worth.f
  repeat' first
      | (with_reducible exact ih0 _ _)
      | (with_reducible exact ih1 _ _)
      | (with_reducible exact LeO.refl _)
      | (with_reducible exact LeO.none _)
      | (with_reducible refine LeO.ite ?_ ?_)
      | (with_reducible refine LeO.bind ?_ (fun _ => ?_))
      | exact ih0 _ _
      | exact ih1 _ _
      | exact LeO.none _
      | refine LeO.ite ?_ ?_
      | refine LeO.bind ?_ (fun _ => ?_)
set_option maxHeartbeats 8000000 in
set_option maxRecDepth 100000 in
theorem undercroftref01_worth.calls (k : Nat) (a0 : Int) (r : Int) (w : World) (h : undercroftref01_worth.f k a0 = some r) :
    Calls Try.prog 25 #[.int .u8 a0] w fun e w' => e = .returned (.int .i64 r) ∧ Drawn0 w w' := by
  have H : (if a0 ≥ 48 then (undercroftref01_worth.j0 k a0 (decide (a0 ≤ 57))) else (undercroftref01_worth.j0 k a0 false)) = some r := h
  clear h
  have HC2 := Aside0.mk H
  clear H
  go_enter Try.func25, Try.ntmps25
  go_upto_region 1 with (fail)
  go_cut [3] (fun v3 wc => ∃ (kq : Nat) (x3_1 : Bool), v3 = .bool x3_1 ∧ Aside0 (undercroftref01_worth.j0 kq a0 x3_1 = some r) ∧ Aside0 (kq ≤ k) ∧ Drawn0 w wc)
  case first =>
    have H := HC2.out
    clear HC2
    by_cases c3 : a0 ≥ 48
    · rw [if_pos c3] at H
      have c3b0 : decide (48 ≤ a0) = true := decide_eq_true c3
      clear c3
      (first | rw [c3b0] | (simp only [i64_w, i32_w]; rw [c3b0]) | skip)
      have H' := Aside0.mk H
      clear H
      go_wp2
      go_meet
      case rel => exact ⟨_, (decide (a0 ≤ 57)), (by first | rfl | (simp; done) | (simp [*]; done)), H', ⟨by first | omega | exact Nat.le_refl _⟩, by repeat (first | exact Drawn0.refl _ | apply Drawn0.step)⟩
    · rw [if_neg c3] at H
      have c3b0 : decide (48 ≤ a0) = false := decide_eq_false c3
      clear c3
      (first | rw [c3b0] | (simp only [i64_w, i32_w]; rw [c3b0]) | skip)
      have H' := Aside0.mk H
      clear H
      go_wp2
      go_meet
      case rel => exact ⟨_, (false), (by first | rfl | (simp; done) | (simp [*]; done)), H', ⟨by first | omega | exact Nat.le_refl _⟩, by repeat (first | exact Drawn0.refl _ | apply Drawn0.step)⟩
  case rest =>
    clear HC2
    try clear c2
    try clear p2
    try clear c3
    try clear c3b0
    obtain ⟨kq, x3_1, rfl, HA, HJ1, ⟨mc1, rfl⟩⟩ := hcut
    cases kq with
    | zero => exact absurd HA.out (by simp [undercroftref01_worth.j0])
    | succ kj1 =>
      have H := HA.out
      clear HA
      simp only [undercroftref01_worth.j0] at H
      by_cases c4 : x3_1 = true
      · subst c4
        have H1 : (some ((a0 - 48) % 256)) = some r := by rw [if_pos rfl] at H; exact H
        clear H
        have H := H1
        clear H1
        obtain rfl := Option.some.inj H
        go_wp2
        go_ret
        exact ⟨by first | rfl | (simp; done) | (simp [*]; done), by repeat (first | exact Drawn0.refl _ | apply Drawn0.step)⟩
      · replace c4 := Bool.eq_false_iff.mpr c4
        subst c4
        have H1 : (if a0 ≥ 97 then (undercroftref01_worth.j1 kj1 a0 (decide (a0 ≤ 102))) else (undercroftref01_worth.j1 kj1 a0 false)) = some r := by rw [if_neg (show ¬ (false = true) by decide)] at H; exact H
        clear H
        have H := H1
        clear H1
        have HC5 := Aside0.mk H
        clear H
        go_upto_region 3 with (fail)
        go_cut [13] (fun v13 wc => ∃ (kq : Nat) (x13_4 : Bool), v13 = .bool x13_4 ∧ Aside0 (undercroftref01_worth.j1 kq a0 x13_4 = some r) ∧ Aside0 (kq ≤ kj1) ∧ Drawn0 w wc)
        case first =>
          have H := HC5.out
          clear HC5
          by_cases c6 : a0 ≥ 97
          · rw [if_pos c6] at H
            have c6b0 : decide (97 ≤ a0) = true := decide_eq_true c6
            clear c6
            (first | rw [c6b0] | (simp only [i64_w, i32_w]; rw [c6b0]) | skip)
            have H' := Aside0.mk H
            clear H
            go_wp2
            go_meet
            case rel => exact ⟨_, (decide (a0 ≤ 102)), (by first | rfl | (simp; done) | (simp [*]; done)), H', ⟨by have := HJ1.out; first | omega | exact Nat.le_refl _⟩, by repeat (first | exact Drawn0.refl _ | apply Drawn0.step)⟩
          · rw [if_neg c6] at H
            have c6b0 : decide (97 ≤ a0) = false := decide_eq_false c6
            clear c6
            (first | rw [c6b0] | (simp only [i64_w, i32_w]; rw [c6b0]) | skip)
            have H' := Aside0.mk H
            clear H
            go_wp2
            go_meet
            case rel => exact ⟨_, (false), (by first | rfl | (simp; done) | (simp [*]; done)), H', ⟨by have := HJ1.out; first | omega | exact Nat.le_refl _⟩, by repeat (first | exact Drawn0.refl _ | apply Drawn0.step)⟩
        case rest =>
          clear HC5
          try clear c1
          try clear c2
          try clear p2
          try clear c3
          try clear c3b0
          try clear c4
          try clear c6
          try clear c6b0
          try clear p2
          obtain ⟨kq, x13_4, rfl, HA, HJ4, ⟨mc4, rfl⟩⟩ := hcut
          cases kq with
          | zero => exact absurd HA.out (by simp [undercroftref01_worth.j1])
          | succ kj4 =>
            have H := HA.out
            clear HA
            simp only [undercroftref01_worth.j1] at H
            by_cases c7 : x13_4 = true
            · subst c7
              have H1 : (some (((a0 - 97) % 256) + 10)) = some r := by rw [if_pos rfl] at H; exact H
              clear H
              have H := H1
              clear H1
              obtain rfl := Option.some.inj H
              go_wp2
              go_ret
              exact ⟨by first | rfl | (simp; done) | (simp [*]; done), by repeat (first | exact Drawn0.refl _ | apply Drawn0.step)⟩
            · replace c7 := Bool.eq_false_iff.mpr c7
              subst c7
              have H1 : (if a0 ≥ 65 then (if a0 ≤ 70 then (some (((a0 - 65) % 256) + 10)) else (some (-1))) else (some (-1))) = some r := by rw [if_neg (show ¬ (false = true) by decide)] at H; exact H
              clear H
              have H := H1
              clear H1
              by_cases c8 : a0 ≥ 65
              · rw [if_pos c8] at H
                have c8b0 : decide (65 ≤ a0) = true := decide_eq_true c8
                clear c8
                by_cases c9 : a0 ≤ 70
                · rw [if_pos c9] at H
                  have c9b0 : decide (a0 ≤ 70) = true := decide_eq_true c9
                  clear c9
                  obtain rfl := Option.some.inj H
                  go_wp2
                  go_ret
                  exact ⟨by first | rfl | (simp; done) | (simp [*]; done), by repeat (first | exact Drawn0.refl _ | apply Drawn0.step)⟩
                · rw [if_neg c9] at H
                  have c9b0 : decide (a0 ≤ 70) = false := decide_eq_false c9
                  clear c9
                  obtain rfl := Option.some.inj H
                  go_wp2
                  go_ret
                  exact ⟨by first | rfl | (simp; done) | (simp [*]; done), by repeat (first | exact Drawn0.refl _ | apply Drawn0.step)⟩
              · rw [if_neg c8] at H
                have c8b0 : decide (65 ≤ a0) = false := decide_eq_false c8
                clear c8
                obtain rfl := Option.some.inj H
                go_wp2
                go_ret
                exact ⟨by first | rfl | (simp; done) | (simp [*]; done), by repeat (first | exact Drawn0.refl _ | apply Drawn0.step)⟩

end Go.Proofs.Ytbdkpmclimfpkaa.POctetsTexts
