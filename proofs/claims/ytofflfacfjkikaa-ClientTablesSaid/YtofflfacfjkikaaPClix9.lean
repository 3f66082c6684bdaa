-- Written by a program of this session (gen.py).
import Derived.Test.YtofflfacfjkikaaPClix0
import Derived.Test.YtofflfacfjkikaaPClix1
import Derived.Test.YtofflfacfjkikaaPClix2
import Derived.Test.YtofflfacfjkikaaPClix3
import Derived.Test.YtofflfacfjkikaaPClix4
import Derived.Test.YtofflfacfjkikaaPClix5
import Derived.Test.YtofflfacfjkikaaPClix6
import Derived.Test.YtofflfacfjkikaaPClix7
import Derived.Test.YtofflfacfjkikaaPClix8
namespace Go.Proofs.Ytofflfacfjkikaa.PCli
open Go.RowKit Go.Proofs.YtofflfacfjkikaaW.PrintWords Go.Proofs.YtofflfacfjkikaaW.PrintLast Go.Proofs.YtofflfacfjkikaaW.PrintMore
open Go.Proofs.Ytofflfacfjkikaa.Own
attribute [local go_sem high] unary_not_u32 unary_not_u64 unary_not_u8 string_leq_ string_gtr_
attribute [local go_sem] max2_int min2_int max_two min_two max_three min_three max_four min_four   -- for this text's walks alone
set_option linter.unusedVariables false
set_option linter.unusedSimpArgs false

/-! ### undercroftlaw20_alive: function 18 -/
/-- A constant's octets, marked: they read as they are. -/
theorem const_C (w : World) (e : TypeId) (x : Int) (fr : Nat × Nat) : Kd.C (Kd.int .u8) (w.alloc (.cells #[.int .u8 x] e fr)) (some ⟨w.heap.size, 0, none⟩) 1 [x] := by
  refine ⟨rfl, by decide, fun _ => ⟨_, rfl, fun j p hp => ?_⟩⟩
  obtain ⟨hj, rfl⟩ := List.getElem?_eq_some_iff.1 hp
  have hj0 : j = 0 := by simpa using hj
  subst hj0
  refine ⟨[.int .u8 x], rfl, rfl, fun i u hu => ?_⟩
  have ha : (⟨w.heap.size, 0, none⟩ : Addr).add (0 * (Kd.int .u8).sz + i) = ⟨w.heap.size, i, none⟩ := by
    rw [Nat.zero_mul, Nat.zero_add, Addr.add_lit, Nat.zero_add]
  rw [ha, World.cell?_alloc_mark, ← Array.getElem?_toList]
  exact hu
def undercroftlaw20_alive.f (k : Nat) : Option Bool := (client_Done.f k ([] : List S51) 1 5 [120]).bind fun d => (client_Ask.f k d.1 1 5).bind fun a => (client_Ask.f k d.1 1 4).bind fun b => (client_Ask.f k d.1 1 6).bind fun c => (client_Ask.f k d.1 2 1).bind fun e => if d.2 = 0 ∧ a = (1, [120], 0) ∧ b.1 = 2 ∧ b.2.2 = 0 ∧ c.1 = 0 ∧ c.2.2 = 0 ∧ e.1 = 0 ∧ e.2.2 = 0 then some true else none
theorem undercroftlaw20_alive.mono : ∀ k, LeO (undercroftlaw20_alive.f k) (undercroftlaw20_alive.f (k + 1)) := by
  intro k
  unfold undercroftlaw20_alive.f
  exact LeO.bind (client_Done.mono _ _ _ _ k) (fun _ => LeO.bind (client_Ask.mono _ _ _ k) (fun _ => LeO.bind (client_Ask.mono _ _ _ k) (fun _ => LeO.bind (client_Ask.mono _ _ _ k) (fun _ => LeO.bind (client_Ask.mono _ _ _ k) (fun _ => LeO.refl _)))))
set_option maxHeartbeats 8000000 in
set_option maxRecDepth 100000 in
theorem undercroftlaw20_alive.calls (k : Nat) (r : Bool) (w : World) (h : undercroftlaw20_alive.f k = some r) :
    Calls Try.prog 18 #[] w fun e w' => e = .returned (.bool r) ∧ Below w.heap.size w w' := by
  unfold undercroftlaw20_alive.f at h
  obtain ⟨⟨d, d2⟩, h1, g1⟩ := Option.bind_eq_some_iff.1 h
  obtain ⟨⟨a1, a2, a3⟩, h2, g2⟩ := Option.bind_eq_some_iff.1 g1
  obtain ⟨⟨b1, b2, b3⟩, h3, g3⟩ := Option.bind_eq_some_iff.1 g2
  obtain ⟨⟨c1, c2, c3⟩, h4, g4⟩ := Option.bind_eq_some_iff.1 g3
  obtain ⟨⟨e1, e2, e3⟩, h5, g5⟩ := Option.bind_eq_some_iff.1 g4
  clear h g1 g2 g3 g4
  simp only at g5 h1 h2 h3 h4 h5
  by_cases hc : d2 = 0 ∧ (a1, a2, a3) = (1, [120], 0) ∧ b1 = 2 ∧ b3 = 0 ∧ c1 = 0 ∧ c3 = 0 ∧ e1 = 0 ∧ e3 = 0
  case neg => rw [if_neg hc] at g5; cases g5
  rw [if_pos hc] at g5
  obtain ⟨e_1, e_2, e_3, e_4, e_5, e_6, e_7, e_8⟩ := hc
  obtain ⟨e_9, e_10⟩ := Prod.mk.inj e_2
  obtain ⟨e_11, e_12⟩ := Prod.mk.inj e_10
  subst e_1 e_3 e_4 e_5 e_6 e_7 e_8 e_9 e_11 e_12
  obtain rfl := Option.some.inj g5
  have A1 := Aside0.mk h1
  have A2 := Aside0.mk h2
  have A3 := Aside0.mk h3
  have A4 := Aside0.mk h4
  have A5 := Aside0.mk h5
  clear g5 e_2 e_10 h1 h2 h3 h4 h5
  have HB0 := Aside0.mk (below_alloc (Below.refl w.heap.size w) (.cells #[.int .u8 120] 5 (1, 2)))
  have HC0 := Aside0.mk (const_C w 5 120 (1, 2))
  have hs : ((strOfNums [120]).toList == ([120] : List UInt8)) = true := by decide +kernel
  have kc := fun (w : World) (C : Array Value) (n c : Nat) => Lib.run_convert_bytes_const (P := Try.prog) w 23 5 C n c Try.underlying23 Try.underlying5
  go_enter Try.func18, Try.ntmps18
  go_wp2_with (first
    | (go_at_call 11; refine (client_Done.calls k none 0 ([] : List S51) 1 5 _ 1 [120] d 0 _ (Kd.C_nil _ _) (Nat.le_refl _) HC0.out (Nat.le_refl _) A1.out).mono ?_; rintro e w1 ⟨v1, rfl, ho1, hb1⟩; obtain ⟨D1, e1, rfl, hl1, hC1⟩ := Kd.S_reads ho1; have HL1 := Aside0.mk hl1; have HC1 := Aside0.mk hC1; have HB1 := Aside0.mk (below_step HB0.out hb1); clear ho1 hb1 hl1 hC1)
    | (go_at_call_of 9 (Value.int .i64 5); refine (client_Ask.calls k D1 e1 d 1 5 1 [120] 0 _ HC1.out HL1.out A2.out).mono ?_; rintro e w2 ⟨v2, rfl, ho2, hb2⟩; have HO2 := Aside0.mk (Kd.R_lower ho2 HB1.out.size); have HB2 := Aside0.mk (below_step HB1.out hb2); have HC2 := Aside0.mk (Kd.C_below HC1.out hb2); clear ho2 hb2)
    | (go_at_call_of 9 (Value.int .i64 4); refine (client_Ask.calls k D1 e1 d 1 4 2 b2 0 _ HC2.out HL1.out A3.out).mono ?_; rintro e w3 ⟨v3, rfl, ho3, hb3⟩; have HB3 := Aside0.mk (below_step HB2.out hb3); have HC3 := Aside0.mk (Kd.C_below HC2.out hb3); have HO3 := Aside0.mk (Kd.R_below HO2.out hb3); clear ho3 hb3)
    | (go_at_call_of 9 (Value.int .i64 6); refine (client_Ask.calls k D1 e1 d 1 6 0 c2 0 _ HC3.out HL1.out A4.out).mono ?_; rintro e w4 ⟨v4, rfl, ho4, hb4⟩; have HB4 := Aside0.mk (below_step HB3.out hb4); have HC4 := Aside0.mk (Kd.C_below HC3.out hb4); have HO4 := Aside0.mk (Kd.R_below HO3.out hb4); clear ho4 hb4)
    | (go_at_call_of 9 (Value.int .i64 2); refine (client_Ask.calls k D1 e1 d 2 1 0 e2 0 _ HC4.out HL1.out A5.out).mono ?_; rintro e w5 ⟨v5, rfl, ho5, hb5⟩; have HB5 := Aside0.mk (below_step HB4.out hb5); have HO5 := Aside0.mk (Kd.R_below HO4.out hb5); clear ho5 hb5; have hcv := own_string (P := Try.prog) Try.underlying23 Try.underlying5 Try.underlying9 (Kd.own_of_R HO5.out); have hcvd := fun m_ : Nat => own_string (P := Try.prog) Try.underlying23 Try.underlying5 Try.underlying9 (Kd.own_of_R (Kd.R_drewN HO5.out m_)))
    | (go_at_call 14; refine (undercroftlaw20_num.calls 0 0 _ rfl).mono ?_; rintro e w6 ⟨rfl, hd⟩; obtain ⟨nd, rfl⟩ := hd.out))
  go_ret
  exact ⟨rfl, pw_below_drewN HB5.out _⟩

/-! ### undercroftlaw20_ClientTables: function 3 -/
def undercroftlaw20_ClientTables.f (k : Nat) (l0 : List S52) (a1 a2 : Int) (l3 : List Int) : Option Bool := (undercroftlaw20_Of.f k l0).bind fun tl => (undercroftplain_CopyBytes.f l3).bind fun b => (client_Ask.f k tl a1 a2).bind fun x => (undercroftref20_Ask.f k l0 a1 a2).bind fun y => (client_Done.f k tl a1 a2 b).bind fun d => (undercroftref20_Done.f k l0 a1 a2 l3).bind fun q => if x.1 = y.1 ∧ x.2.2 = y.2.2 ∧ d.2 = q.2 then ((undercroftplain_SameBytes.f k x.2.1 y.2.1).bind fun t1 => (undercroftlaw20_Alike.f k d.1 q.1).bind fun t2 => (client_Check.f k tl).bind fun c => (undercroftref20_Check.f k l0).bind fun c' => (undercroftlaw20_Alike.f k tl l0).bind fun t3 => (undercroftplain_SameBytes.f k b l3).bind fun t4 => (undercroftlaw20_alive.f k).bind fun t5 => if t1 = true ∧ t2 = 0 ∧ c = c' ∧ t3 = 0 ∧ t4 = true ∧ t5 = true then some true else none) else none
theorem undercroftlaw20_ClientTables.mono : ∀ a0 a1 a2 a3 k, LeO (undercroftlaw20_ClientTables.f k a0 a1 a2 a3) (undercroftlaw20_ClientTables.f (k + 1) a0 a1 a2 a3) := by
  intro a0 a1 a2 a3 k
  unfold undercroftlaw20_ClientTables.f
  exact LeO.bind (undercroftlaw20_Of.mono _ k) (fun _ => LeO.bind (LeO.refl _) (fun _ => LeO.bind (client_Ask.mono _ _ _ k) (fun _ => LeO.bind (undercroftref20_Ask.mono _ _ _ k) (fun _ => LeO.bind (client_Done.mono _ _ _ _ k) (fun _ => LeO.bind (undercroftref20_Done.mono _ _ _ _ k) (fun _ => LeO.ite (LeO.bind (undercroftplain_SameBytes.mono _ _ k) (fun _ => LeO.bind (undercroftlaw20_Alike.mono _ _ k) (fun _ => LeO.bind (client_Check.mono _ k) (fun _ => LeO.bind (undercroftref20_Check.mono _ k) (fun _ => LeO.bind (undercroftlaw20_Alike.mono _ _ k) (fun _ => LeO.bind (undercroftplain_SameBytes.mono _ _ k) (fun _ => LeO.bind (undercroftlaw20_alive.mono k) (fun _ => LeO.refl _)))))))) (LeO.refl _)))))))
set_option maxHeartbeats 8000000 in
set_option maxRecDepth 100000 in
theorem undercroftlaw20_ClientTables.calls (k : Nat) (A0 : Option Addr) (c0 : Nat) (l0 : List S52) (a1 a2 : Int) (A3 : Option Addr) (c3 : Nat) (l3 : List Int) (r : Bool) (w : World) (hr0 : Kd.C k52 w A0 l0.length l0) (hc0 : l0.length ≤ c0) (hr3 : Kd.C (Kd.int .u8) w A3 l3.length l3) (hc3 : l3.length ≤ c3) (h : undercroftlaw20_ClientTables.f k l0 a1 a2 l3 = some r) :
    Calls Try.prog 3 #[.slice A0 l0.length c0, .int .i64 a1, .int .i64 a2, .slice A3 l3.length c3] w fun e w' => e = .returned (.bool r) ∧ Below w.heap.size w w' := by
  have HR0 := Aside0.mk hr0
  have HC0 := Aside0.mk hc0
  have HR3 := Aside0.mk hr3
  have HC3 := Aside0.mk hc3
  unfold undercroftlaw20_ClientTables.f at h
  obtain ⟨tl, h1, g1⟩ := Option.bind_eq_some_iff.1 h
  obtain ⟨b, h2, g2⟩ := Option.bind_eq_some_iff.1 g1
  obtain ⟨⟨x1, x2, x3⟩, h3, g3⟩ := Option.bind_eq_some_iff.1 g2
  obtain ⟨⟨y1, y2, y3⟩, h4, g4⟩ := Option.bind_eq_some_iff.1 g3
  obtain ⟨⟨d, d2⟩, h5, g5⟩ := Option.bind_eq_some_iff.1 g4
  obtain ⟨⟨q, q2⟩, h6, g6⟩ := Option.bind_eq_some_iff.1 g5
  simp only at g6
  by_cases hc : x1 = y1 ∧ x3 = y3 ∧ d2 = q2
  case neg => rw [if_neg hc] at g6; cases g6
  rw [if_pos hc] at g6
  obtain ⟨t1, h7, g7⟩ := Option.bind_eq_some_iff.1 g6
  obtain ⟨t2, h8, g8⟩ := Option.bind_eq_some_iff.1 g7
  obtain ⟨cc, h9, g9⟩ := Option.bind_eq_some_iff.1 g8
  obtain ⟨cc', h10, g10⟩ := Option.bind_eq_some_iff.1 g9
  obtain ⟨t3, h11, g11⟩ := Option.bind_eq_some_iff.1 g10
  obtain ⟨t4, h12, g12⟩ := Option.bind_eq_some_iff.1 g11
  obtain ⟨t5, h13, g13⟩ := Option.bind_eq_some_iff.1 g12
  by_cases hd : t1 = true ∧ t2 = 0 ∧ cc = cc' ∧ t3 = 0 ∧ t4 = true ∧ t5 = true
  case neg => rw [if_neg hd] at g13; cases g13
  rw [if_pos hd] at g13
  clear h g1 g2 g3 g4 g5 g6 g7 g8 g9 g10 g11 g12
  obtain ⟨e1, e2, e3⟩ := hc
  obtain ⟨e4, e5, e6, e7, e8, e9⟩ := hd
  subst e1 e2 e3 e4 e5 e6 e7 e8 e9
  obtain rfl := Option.some.inj g13
  have A1 := Aside0.mk h1
  have A2 := Aside0.mk h2
  have A3_ := Aside0.mk h3
  have A4 := Aside0.mk h4
  have A5 := Aside0.mk h5
  have A6 := Aside0.mk h6
  have A7 := Aside0.mk h7
  have A8 := Aside0.mk h8
  have A9 := Aside0.mk h9
  have A10 := Aside0.mk h10
  have A11 := Aside0.mk h11
  have A12 := Aside0.mk h12
  have A13 := Aside0.mk h13
  clear g13 h1 h2 h3 h4 h5 h6 h7 h8 h9 h10 h11 h12 h13 hr0 hc0 hr3 hc3
  have q1 : (x1 == x1) = true := by simp
  have q3 : (x3 == x3) = true := by simp
  have q2 : (d2 == d2) = true := by simp
  have q4 : (cc == cc) = true := by simp
  go_enter Try.func3, Try.ntmps3
  go_wp2_with (first
    | (go_at_call 7; refine (undercroftlaw20_Of.calls k A0 c0 l0 tl _ (Kd.C_below HR0.out (Below.refl _ _)) HC0.out A1.out).mono ?_; rintro e w1 ⟨v1, rfl, ho1, hb1⟩; obtain ⟨D1, e1, rfl, hl1, hC1⟩ := Kd.S_reads ho1; have HL1 := Aside0.mk hl1; have HT1 := Aside0.mk hC1; have HB := Aside0.mk hb1; clear ho1 hb1 hl1 hC1)
    | (go_at_call 8; refine (undercroftplain_CopyBytes.calls A3 c3 l3 b _ (Kd.C_below HR3.out HB.out) HC3.out A2.out).mono ?_; rintro e w2 ⟨v2, rfl, ho2, hb2⟩; obtain ⟨D2, e2, rfl, hl2, hC2⟩ := Kd.R_reads ho2; have HL2 := Aside0.mk hl2; have HK := Aside0.mk hC2; have HB2 := Aside0.mk (below_step HB.out hb2); have HT := Aside0.mk (Kd.C_below HT1.out hb2); clear ho2 hb2 hl2 hC2 HB HT1 A2)
    | (go_at_call 9; refine (client_Ask.calls k D1 e1 tl a1 a2 x1 x2 x3 _ HT.out HL1.out A3_.out).mono ?_; rintro e w3 ⟨v3, rfl, ho3, hb3⟩; obtain ⟨D3, e3, rfl, hl3, hC3⟩ := Kd.R_reads ho3; have HL3 := Aside0.mk hl3; have HX := Aside0.mk hC3; have HB := Aside0.mk (below_step HB2.out hb3); have HT1 := Aside0.mk (Kd.C_below HT.out hb3); have HK1 := Aside0.mk (Kd.C_below HK.out hb3); clear ho3 hb3 hl3 hC3 HB2 HT HK)
    | (go_at_call 10; refine (undercroftref20_Ask.calls k A0 c0 l0 a1 a2 x1 y2 x3 _ (Kd.C_below HR0.out HB.out) HC0.out A4.out).mono ?_; rintro e w4 ⟨v4, rfl, ho4, hb4⟩; obtain ⟨D4, e4, rfl, hl4, hC4⟩ := Kd.R_reads ho4; have HL4 := Aside0.mk hl4; have HY := Aside0.mk hC4; have HB2 := Aside0.mk (below_step HB.out hb4); have HT := Aside0.mk (Kd.C_below HT1.out hb4); have HK := Aside0.mk (Kd.C_below HK1.out hb4); have HX1 := Aside0.mk (Kd.C_below HX.out hb4); clear ho4 hb4 hl4 hC4 HB HT1 HK1 HX)
    | (go_at_call 11; refine (client_Done.calls k D1 e1 tl a1 a2 D2 e2 b d d2 _ HT.out HL1.out HK.out HL2.out A5.out).mono ?_; rintro e w5 ⟨v5, rfl, ho5, hb5⟩; obtain ⟨D5, e5, rfl, hl5, hC5⟩ := Kd.S_reads ho5; have HL5 := Aside0.mk hl5; have HD := Aside0.mk hC5; have HB := Aside0.mk (below_step HB2.out hb5); have HT1 := Aside0.mk (Kd.C_below HT.out hb5); have HK1 := Aside0.mk (Kd.C_below HK.out hb5); have HX := Aside0.mk (Kd.C_below HX1.out hb5); have HY1 := Aside0.mk (Kd.C_below HY.out hb5); clear ho5 hb5 hl5 hC5 HB2 HT HK HX1 HY)
    | (go_at_call 12; refine (undercroftref20_Done.calls k A0 c0 l0 a1 a2 A3 c3 l3 q d2 _ (Kd.C_below HR0.out HB.out) HC0.out (Kd.C_below HR3.out HB.out) HC3.out A6.out).mono ?_; rintro e w6 ⟨v6, rfl, ho6, hb6⟩; obtain ⟨D6, e6, rfl, hl6, hC6⟩ := Kd.S_reads ho6; have HL6 := Aside0.mk hl6; have HQ := Aside0.mk hC6; have HB2 := Aside0.mk (below_step HB.out hb6); have HT := Aside0.mk (Kd.C_below HT1.out hb6); have HK := Aside0.mk (Kd.C_below HK1.out hb6); have HX1 := Aside0.mk (Kd.C_below HX.out hb6); have HY := Aside0.mk (Kd.C_below HY1.out hb6); have HD1 := Aside0.mk (Kd.C_below HD.out hb6); clear ho6 hb6 hl6 hC6 HB HT1 HK1 HX HY1 HD)
    | (go_at_call 13; refine (undercroftplain_SameBytes.calls k D3 e3 x2 D4 e4 y2 true _ (Kd.C_below HX1.out (by first | exact Below.refl _ _ | exact pw_below_drewN (Below.refl _ _) _)) HL3.out (Kd.C_below HY.out (by first | exact Below.refl _ _ | exact pw_below_drewN (Below.refl _ _) _)) HL4.out A7.out).mono ?_; rintro e w7 ⟨rfl, hd7⟩; obtain ⟨n7, rfl⟩ := hd7.out; clear HX1)
    | (go_at_call_of 14 (Value.int .i64 x3); refine (undercroftlaw20_num.calls x3 x3 _ rfl).mono ?_; rintro e w9 ⟨rfl, hd9⟩; obtain ⟨n9, rfl⟩ := hd9.out)
    | (go_at_call_of 14 (Value.int .i64 d2); refine (undercroftlaw20_num.calls d2 d2 _ rfl).mono ?_; rintro e w9 ⟨rfl, hd9⟩; obtain ⟨n9, rfl⟩ := hd9.out)
    | (go_at_call_of 14 (Value.int .i64 cc); refine (undercroftlaw20_num.calls cc cc _ rfl).mono ?_; rintro e w9 ⟨rfl, hd9⟩; obtain ⟨n9, rfl⟩ := hd9.out)
    | (go_at_call 15; refine (undercroftlaw20_Alike.calls k D5 e5 d D6 e6 q 0 _ (Kd.C_drewN HD1.out _) HL5.out (Kd.C_drewN HQ.out _) HL6.out A8.out).mono ?_; rintro e w8 ⟨rfl, hb8⟩; have HB := Aside0.mk (below_step (pw_below_drewN HB2.out _) hb8); have HT1 := Aside0.mk (Kd.C_below (Kd.C_drewN HT.out _) hb8); have HK1 := Aside0.mk (Kd.C_below (Kd.C_drewN HK.out _) hb8); clear hb8 HB2 HT HK HD1)
    | (go_at_call 16; refine (client_Check.calls k D1 e1 tl cc _ (Kd.C_drewN HT1.out _) HL1.out A9.out).mono ?_; rintro e w10 ⟨rfl, hb10⟩; have HB2 := Aside0.mk (below_step (pw_below_drewN HB.out _) hb10); have HT := Aside0.mk (Kd.C_below (Kd.C_drewN HT1.out _) hb10); have HK := Aside0.mk (Kd.C_below (Kd.C_drewN HK1.out _) hb10); clear hb10 HB HT1 HK1)
    | (go_at_call 17; refine (undercroftref20_Check.calls k A0 c0 l0 cc _ (Kd.C_below HR0.out (pw_below_drewN HB2.out _)) HC0.out A10.out).mono ?_; rintro e w11 ⟨rfl, hb11⟩; have HB := Aside0.mk (below_step (pw_below_drewN HB2.out _) hb11); have HT1 := Aside0.mk (Kd.C_below (Kd.C_drewN HT.out _) hb11); have HK1 := Aside0.mk (Kd.C_below (Kd.C_drewN HK.out _) hb11); clear hb11 HB2 HT HK)
    | (go_at_call 15; refine (undercroftlaw20_Alike.calls k D1 e1 tl A0 c0 l0 0 _ HT1.out HL1.out (Kd.C_below HR0.out HB.out) HC0.out A11.out).mono ?_; rintro e w12 ⟨rfl, hb12⟩; have HB2 := Aside0.mk (below_step HB.out hb12); have HK := Aside0.mk (Kd.C_below HK1.out hb12); clear hb12 HB HT1 HK1)
    | (go_at_call 13; refine (undercroftplain_SameBytes.calls k D2 e2 b A3 c3 l3 true _ HK.out HL2.out (Kd.C_below HR3.out HB2.out) HC3.out A12.out).mono ?_; rintro e w13 ⟨rfl, hd13⟩; obtain ⟨n13, rfl⟩ := hd13.out)
    | (go_at_call 18; refine (undercroftlaw20_alive.calls k true _ A13.out).mono ?_; rintro e w14 ⟨rfl, hb14⟩; have HB14 := Aside0.mk (below_step (pw_below_drewN HB2.out _) hb14)))
  go_ret
  exact ⟨rfl, HB14.out⟩

-- NOT PRINTED: function 4 (undercroftlaw20_ClientOnce)

/-! ### undercroftlaw20_ClientOthers: function 5 -/
def undercroftlaw20_ClientOthers.f (k : Nat) (l0 : List S52) (a1 a2 a3 a4 : Int) : Option Bool := (undercroftlaw20_alive.f k).bind fun t => if t = true then ((undercroftlaw20_Of.f k l0).bind fun tl => (client_Done.f k tl a1 a2 [114]).bind fun d => if d.2 = 0 then (if a3 = a1 then some true else ((client_Ask.f k tl a3 a4).bind fun x => (client_Ask.f k d.1 a3 a4).bind fun y => if x.1 = y.1 ∧ x.2.2 = y.2.2 then (undercroftplain_SameBytes.f k x.2.1 y.2.1) else none)) else if d.1 = [] then some true else none) else none
theorem undercroftlaw20_ClientOthers.mono : ∀ a0 a1 a2 a3 a4 k, LeO (undercroftlaw20_ClientOthers.f k a0 a1 a2 a3 a4) (undercroftlaw20_ClientOthers.f (k + 1) a0 a1 a2 a3 a4) := by
  intro a0 a1 a2 a3 a4 k
  unfold undercroftlaw20_ClientOthers.f
  refine LeO.bind (undercroftlaw20_alive.mono k) (fun _ => LeO.ite (LeO.bind (undercroftlaw20_Of.mono _ k) (fun _ => LeO.bind (client_Done.mono _ _ _ _ k) (fun _ => LeO.ite (LeO.ite (LeO.refl _) (LeO.bind (client_Ask.mono _ _ _ k) (fun _ => LeO.bind (client_Ask.mono _ _ _ k) (fun _ => LeO.ite (undercroftplain_SameBytes.mono _ _ k) (LeO.refl _))))) (LeO.refl _)))) (LeO.refl _))
set_option maxHeartbeats 8000000 in
set_option maxRecDepth 100000 in
theorem undercroftlaw20_ClientOthers.calls (k : Nat) (A0 : Option Addr) (c0 : Nat) (l0 : List S52) (a1 a2 a3 a4 : Int) (r : Bool) (w : World) (hr0 : Kd.C k52 w A0 l0.length l0) (hc0 : l0.length ≤ c0) (h : undercroftlaw20_ClientOthers.f k l0 a1 a2 a3 a4 = some r) :
    Calls Try.prog 5 #[.slice A0 l0.length c0, .int .i64 a1, .int .i64 a2, .int .i64 a3, .int .i64 a4] w fun e w' => e = .returned (.bool r) ∧ Below w.heap.size w w' := by
  have HR0 := Aside0.mk hr0
  have HC0 := Aside0.mk hc0
  unfold undercroftlaw20_ClientOthers.f at h
  obtain ⟨t, h1, g1⟩ := Option.bind_eq_some_iff.1 h
  by_cases ht : t = true
  case neg => rw [if_neg ht] at g1; cases g1
  subst ht
  rw [if_pos rfl] at g1
  obtain ⟨tl, h2, g2⟩ := Option.bind_eq_some_iff.1 g1
  obtain ⟨⟨d, d2⟩, h3, g3⟩ := Option.bind_eq_some_iff.1 g2
  simp only at g3
  have A1 := Aside0.mk h1
  have A2 := Aside0.mk h2
  have A3 := Aside0.mk h3
  clear h g1 g2 h1 h2 h3 hr0 hc0
  have kc := fun (w : World) (C : Array Value) (n c : Nat) => Lib.run_convert_bytes_const (P := Try.prog) w 23 5 C n c Try.underlying23 Try.underlying5
  have q4 : ∀ (x : Int), x = x := fun _ => rfl
  clear q4
  by_cases hd : d2 = 0
  · subst hd
    rw [if_pos rfl] at g3
    by_cases ha : a3 = a1
    · have q1 : (a3 == a1) = true := by simpa using ha
      have q2 : (a3 != a1) = false := by simpa using ha
      rw [if_pos ha] at g3
      obtain rfl := Option.some.inj g3
      clear ha g3
      go_enter Try.func5, Try.ntmps5
      go_wp2_with (first
        | (go_at_call 18; refine (undercroftlaw20_alive.calls k true _ A1.out).mono ?_; rintro e w1 ⟨rfl, hb1⟩; have HB1 := Aside0.mk hb1; clear hb1)
        | (go_at_call 7; refine (undercroftlaw20_Of.calls k A0 c0 l0 tl _ (Kd.C_below HR0.out HB1.out) HC0.out A2.out).mono ?_; rintro e w2 ⟨v2, rfl, ho2, hb2⟩; obtain ⟨D2, e2, rfl, hl2, hC2⟩ := Kd.S_reads ho2; have HL2 := Aside0.mk hl2; have HB2 := Aside0.mk (below_alloc (below_step HB1.out hb2) (.cells #[.int .u8 114] 5 (1, 2))); have HC2 := Aside0.mk (Kd.C_below hC2 (below_alloc (Below.refl _ _) (.cells #[.int .u8 114] 5 (1, 2)))); have HK2 := Aside0.mk (const_C w2 5 114 (1, 2)); clear ho2 hb2 hl2 hC2 HB1)
        | (go_at_call 11; refine (client_Done.calls k D2 e2 tl a1 a2 _ 1 [114] d 0 _ HC2.out HL2.out HK2.out (Nat.le_refl _) A3.out).mono ?_; rintro e w3 ⟨v3, rfl, ho3, hb3⟩; obtain ⟨D3, e3, rfl, hl3, hC3⟩ := Kd.S_reads ho3; have HL3 := Aside0.mk hl3; have HC3 := Aside0.mk hC3; have HB3 := Aside0.mk (below_step HB2.out hb3); clear ho3 hb3 hl3 hC3)
        | (go_at_call 14; refine (undercroftlaw20_num.calls 0 0 _ rfl).mono ?_; rintro e w6 ⟨rfl, hd⟩; obtain ⟨nd, rfl⟩ := hd.out))
      go_ret
      exact ⟨rfl, pw_below_drewN HB3.out _⟩
    · have q1 : (a3 == a1) = false := by simpa using ha
      have q2 : (a3 != a1) = true := by simpa using ha
      rw [if_neg ha] at g3
      obtain ⟨⟨x1, x2, x3⟩, h4, g4⟩ := Option.bind_eq_some_iff.1 g3
      obtain ⟨⟨y1, y2, y3⟩, h5, g5⟩ := Option.bind_eq_some_iff.1 g4
      simp only at g5
      by_cases hc : x1 = y1 ∧ x3 = y3
      case neg => rw [if_neg hc] at g5; cases g5
      rw [if_pos hc] at g5
      obtain ⟨hc1, hc2⟩ := hc
      subst hc1 hc2
      have A4 := Aside0.mk h4
      have A5 := Aside0.mk h5
      have A6 := Aside0.mk g5
      clear ha g3 g4 g5 h4 h5
      go_enter Try.func5, Try.ntmps5
      go_wp2_with (first
        | (go_at_call 18; refine (undercroftlaw20_alive.calls k true _ A1.out).mono ?_; rintro e w1 ⟨rfl, hb1⟩; have HB1 := Aside0.mk hb1; clear hb1)
        | (go_at_call 7; refine (undercroftlaw20_Of.calls k A0 c0 l0 tl _ (Kd.C_below HR0.out HB1.out) HC0.out A2.out).mono ?_; rintro e w2 ⟨v2, rfl, ho2, hb2⟩; obtain ⟨D2, e2, rfl, hl2, hC2⟩ := Kd.S_reads ho2; have HL2 := Aside0.mk hl2; have HB2 := Aside0.mk (below_alloc (below_step HB1.out hb2) (.cells #[.int .u8 114] 5 (1, 2))); have HC2 := Aside0.mk (Kd.C_below hC2 (below_alloc (Below.refl _ _) (.cells #[.int .u8 114] 5 (1, 2)))); have HK2 := Aside0.mk (const_C w2 5 114 (1, 2)); clear ho2 hb2 hl2 hC2 HB1)
        | (go_at_call 11; refine (client_Done.calls k D2 e2 tl a1 a2 _ 1 [114] d 0 _ HC2.out HL2.out HK2.out (Nat.le_refl _) A3.out).mono ?_; rintro e w3 ⟨v3, rfl, ho3, hb3⟩; obtain ⟨D3, e3, rfl, hl3, hC3⟩ := Kd.S_reads ho3; have HL3 := Aside0.mk hl3; have HC3 := Aside0.mk hC3; have HB3 := Aside0.mk (below_step HB2.out hb3); clear ho3 hb3 hl3 hC3)
        | (go_at_call 14; refine (undercroftlaw20_num.calls 0 0 _ rfl).mono ?_; rintro e w6 ⟨rfl, hd⟩; obtain ⟨nd, rfl⟩ := hd.out)
        | (go_at_call 7; refine (undercroftlaw20_Of.calls k A0 c0 l0 tl _ (Kd.C_below HR0.out (pw_below_drewN HB3.out _)) HC0.out A2.out).mono ?_; rintro e w4 ⟨v4, rfl, ho4, hb4⟩; obtain ⟨D4, e4, rfl, hl4, hC4⟩ := Kd.S_reads ho4; have HL4 := Aside0.mk hl4; have HC4 := Aside0.mk hC4; have HB4 := Aside0.mk (below_step (pw_below_drewN HB3.out _) hb4); have HC34 := Aside0.mk (Kd.C_below (Kd.C_drewN HC3.out _) hb4); clear ho4 hb4 hl4 hC4)
        | (go_at_call 9; refine (client_Ask.calls k D4 e4 tl a3 a4 x1 x2 x3 _ HC4.out HL4.out A4.out).mono ?_; rintro e w5 ⟨v5, rfl, ho5, hb5⟩; obtain ⟨D5, e5, rfl, hl5, hC5⟩ := Kd.R_reads ho5; have HL5 := Aside0.mk hl5; have HC5 := Aside0.mk hC5; have HB5 := Aside0.mk (below_step HB4.out hb5); have HC35 := Aside0.mk (Kd.C_below HC34.out hb5); clear ho5 hb5 hl5 hC5 A4)
        | (go_at_call 9; refine (client_Ask.calls k D3 e3 d a3 a4 x1 y2 x3 _ HC35.out HL3.out A5.out).mono ?_; rintro e w7 ⟨v7, rfl, ho7, hb7⟩; obtain ⟨D7, e7, rfl, hl7, hC7⟩ := Kd.R_reads ho7; have HL7 := Aside0.mk hl7; have HC7 := Aside0.mk hC7; have HB7 := Aside0.mk (below_step HB5.out hb7); have HC57 := Aside0.mk (Kd.C_below HC5.out hb7); clear ho7 hb7 hl7 hC7)
        | (go_at_call 13; refine (undercroftplain_SameBytes.calls k D5 e5 x2 D7 e7 y2 r _ HC57.out HL5.out HC7.out HL7.out A6.out).mono ?_; rintro e w8 ⟨rfl, hd⟩; obtain ⟨nd8, rfl⟩ := hd.out))
      go_ret
      exact ⟨rfl, pw_below_drewN HB7.out _⟩
  · have q1 : (d2 == 0) = false := by simpa using hd
    have q2 : (d2 != 0) = true := by simpa using hd
    rw [if_neg hd] at g3
    by_cases hn : d = []
    case neg => rw [if_neg hn] at g3; cases g3
    rw [if_pos hn] at g3
    subst hn
    obtain rfl := Option.some.inj g3
    clear hd g3
    go_enter Try.func5, Try.ntmps5
    go_wp2_with (first
      | (go_at_call 18; refine (undercroftlaw20_alive.calls k true _ A1.out).mono ?_; rintro e w1 ⟨rfl, hb1⟩; have HB1 := Aside0.mk hb1; clear hb1)
      | (go_at_call 7; refine (undercroftlaw20_Of.calls k A0 c0 l0 tl _ (Kd.C_below HR0.out HB1.out) HC0.out A2.out).mono ?_; rintro e w2 ⟨v2, rfl, ho2, hb2⟩; obtain ⟨D2, e2, rfl, hl2, hC2⟩ := Kd.S_reads ho2; have HL2 := Aside0.mk hl2; have HB2 := Aside0.mk (below_alloc (below_step HB1.out hb2) (.cells #[.int .u8 114] 5 (1, 2))); have HC2 := Aside0.mk (Kd.C_below hC2 (below_alloc (Below.refl _ _) (.cells #[.int .u8 114] 5 (1, 2)))); have HK2 := Aside0.mk (const_C w2 5 114 (1, 2)); clear ho2 hb2 hl2 hC2 HB1)
      | (go_at_call 11; refine (client_Done.calls k D2 e2 tl a1 a2 _ 1 [114] [] d2 _ HC2.out HL2.out HK2.out (Nat.le_refl _) A3.out).mono ?_; rintro e w3 ⟨v3, rfl, ho3, hb3⟩; obtain ⟨D3, e3, rfl, hl3, hC3⟩ := Kd.S_reads ho3; have HL3 := Aside0.mk hl3; have HC3 := Aside0.mk hC3; have HB3 := Aside0.mk (below_step HB2.out hb3); clear ho3 hb3 hl3 hC3)
      | (go_at_call 14; refine (undercroftlaw20_num.calls d2 d2 _ rfl).mono ?_; rintro e w6 ⟨rfl, hd⟩; obtain ⟨nd, rfl⟩ := hd.out))
    go_ret
    exact ⟨rfl, pw_below_drewN HB3.out _⟩

/-! ### undercroftplain_Spoil: function 19 -/
def undercroftplain_Spoil.l0 : Nat → List Int → Int → Option (List Int)
  | 0, _, _ => none
  | k + 1, x0, x2 => if x2 < (x0.length : Int) then (if 0 ≤ x2 then (undercroftplain_Spoil.l0 k (x0.set (x2 : Int).toNat (Go.bits .xor .u8 (rd x0 x2) 85)) (wrap64 (x2 + 1))) else (none)) else (some x0)
def undercroftplain_Spoil.f (k : Nat) (l0 : List Int) : Option (List Int) := undercroftplain_Spoil.l0 k l0 0
theorem undercroftplain_Spoil.mono_l : ∀ k, (∀ y0 y1, LeO (undercroftplain_Spoil.l0 k y0 y1) (undercroftplain_Spoil.l0 (k + 1) y0 y1))
  | 0 => fun _ _ r h => by simp [undercroftplain_Spoil.l0] at h
  | k + 1 => by
    have ih0 := undercroftplain_Spoil.mono_l k
    · intro y0 y1
      unfold undercroftplain_Spoil.l0
      repeat' first
      | (with_reducible exact ih0 _ _)
      | (with_reducible exact LeO.refl _)
      | (with_reducible exact LeO.none _)
      | (with_reducible refine LeO.ite ?_ ?_)
      | (with_reducible refine LeO.bind ?_ (fun _ => ?_))
      | exact ih0 _ _
      | exact LeO.none _
      | refine LeO.ite ?_ ?_
      | refine LeO.bind ?_ (fun _ => ?_)
theorem undercroftplain_Spoil.mono : ∀ a0 k, LeO (undercroftplain_Spoil.f k a0) (undercroftplain_Spoil.f (k + 1) a0) := by
  intro a0 k
  have ih0 := undercroftplain_Spoil.mono_l k
  unfold undercroftplain_Spoil.f
  repeat' first
      | (with_reducible exact ih0 _ _)
      | (with_reducible exact LeO.refl _)
      | (with_reducible exact LeO.none _)
      | (with_reducible refine LeO.ite ?_ ?_)
      | (with_reducible refine LeO.bind ?_ (fun _ => ?_))
      | exact ih0 _ _
      | exact LeO.none _
      | refine LeO.ite ?_ ?_
      | refine LeO.bind ?_ (fun _ => ?_)
set_option maxHeartbeats 8000000 in
set_option maxRecDepth 100000 in
theorem undercroftplain_Spoil.calls (k : Nat) (P0_ : Nat → Prop) (u9000_ : Value) (l0 : List Int) (r : List Int) (w0 w : World) (hB : Below w0.heap.size w0 w) (ho0 : Kd.R (Kd.int .u8) 5 w w0.heap.size P0_ u9000_ l0) (h : undercroftplain_Spoil.f k l0 = some r) :
    Calls Try.prog 19 #[u9000_] w fun e w' => e = .returned (.tuple #[]) ∧ Kd.R (Kd.int .u8) 5 w' w0.heap.size (fun k_ => (P0_ k_ ∨ w.heap.size ≤ k_)) u9000_ r ∧ Below w0.heap.size w0 w' ∧ Kept w w' (fun k_ => P0_ k_) := by
  have HO0 := Aside0.mk (show Kd.R (Kd.int .u8) 5 w w0.heap.size (fun k_ => (P0_ k_ ∨ w.heap.size ≤ k_)) u9000_ l0 from Kd.R_mono ho0 (fun k_ hk => (.inl hk)))
  have HK := Aside0.mk (Kept.refl w (fun k_ => P0_ k_))
  have HW0 := Aside0.mk hB.size
  have HB := Aside0.mk hB
  clear hB
  have H : (undercroftplain_Spoil.l0 k l0 0) = some r := h
  clear h
  have H' := Aside0.mk H
  clear H
  go_enter Try.func19, Try.ntmps19
  go_wp2
  go_loopg [2] k (fun kq v2 w' => ∃ (x0_1 : List Int) (x2_1 : Int), v2 = .int .i64 x2_1 ∧ Aside0 (undercroftplain_Spoil.l0 kq x0_1 x2_1 = some r) ∧ Aside0 (kq ≤ k) ∧ Aside0 (Kd.R (Kd.int .u8) 5 w' w0.heap.size (fun k_ => (P0_ k_ ∨ w.heap.size ≤ k_)) u9000_ x0_1) ∧ Aside0 (Kept w w' (fun k_ => P0_ k_)) ∧ Aside0 (Below w0.heap.size w0 w'))
  case atStart => exact ⟨(l0), (0), (by first | rfl | (simp; done) | (simp [*]; done)), H', ⟨Nat.le_refl _⟩, ⟨by (with_reducible repeat (first | apply Kd.R_alloc | apply Kd.R_drewN | apply Kd.R_drew)); exact HO0.out⟩, ⟨by repeat (first | (with_reducible first | exact HK.out | apply Kept.alloc | apply Kept.drewN | apply Kept.drew) | exact HK.out)⟩, ⟨by repeat (first | (with_reducible first | exact HB.out | apply below_alloc | apply pw_below_drewN | apply below_drew1) | exact HB.out)⟩⟩
  case round =>
    clear H'
    try clear c1
    obtain ⟨x0_1, x2_1, rfl, HA, HK1, HO_0, HK, HB⟩ := hrel
    cases gk with
    | zero => exact absurd HA.out (by simp [undercroftplain_Spoil.l0])
    | succ k1 =>
      have H := HA.out
      clear HA
      simp only [undercroftplain_Spoil.l0] at H
      by_cases c2 : x2_1 < (x0_1.length : Int)
      · rw [if_pos c2] at H
        have c2b0 : decide (x2_1 < (x0_1.length : Int)) = true := decide_eq_true c2
        clear c2
        by_cases c3 : 0 ≤ x2_1
        · rw [if_pos c3] at H
          have c3b0 : decide (0 ≤ x2_1) = true := decide_eq_true c3
          clear c3
          obtain ⟨y207, hy207⟩ : ∃ y_ : List Int, y_ = (x0_1.set (x2_1 : Int).toNat (Go.bits .xor .u8 (rd x0_1 x2_1) 85)) := ⟨_, rfl⟩
          replace H : (undercroftplain_Spoil.l0 k1 y207 (wrap64 (x2_1 + 1))) = some r := by first | (rw [hy207]; with_reducible exact H) | (have H2_ := (Option.bind_some _ _).symm.trans H; rw [hy207]; with_reducible exact H2_) | (have H2_ := (Option.bind_some _ _).symm.trans H; with_reducible exact H2_) | with_reducible exact H | (rw [hy207]; exact H) | exact H
          have Ny207 := Aside0.mk hy207
          clear hy207
          have H' := Aside0.mk H
          clear H
          obtain ⟨Ao5, co5, eo5⟩ := Kd.R_slice HO_0.out
          subst eo5
          have p206 : 0 ≤ (x2_1 : Int) := of_decide_eq_true (by first | (with_reducible assumption) | assumption)
          have q206 : x2_1 < (x0_1.length : Int) := of_decide_eq_true (by first | (with_reducible assumption) | assumption)
          obtain ⟨ad206, e206, hx206_0⟩ := Kd.at_int (Kd.R_reads' HO_0.out).2.2 x2_1 p206 q206
          cases e206
          replace p206 := eq_true p206
          replace q206 := eq_true q206
          have p4 : 0 ≤ (x2_1 : Int) := of_decide_eq_true (by first | (with_reducible assumption) | assumption)
          have q4 : (x2_1 : Int) < ((x0_1.length : Int) : Int) := of_decide_eq_true (by first | (with_reducible assumption) | assumption)
          obtain ⟨go4, co4, eo4, gb4, gl4, cl4, HG4⟩ := Kd.R_form HO_0.out (by omega)
          (first | cases eo4 | (injection eo4 with ea_ en_ ec_; (first | subst ea_ | (injection ea_ with ea_; subst ea_)); subst ec_; clear en_))
          have GB4 := Aside0.mk gb4
          have GG4 := Aside0.mk HG4
          clear gb4 gl4 HG4
          have HMgo4 := Aside0.mk (show (P0_ go4 ∨ w.heap.size ≤ go4) from (HO_0.out.1 _ rfl))
          (first | simp only [add_plain] at hx206_0 | skip)
          obtain ⟨hx4_0, hf4_0⟩ := Kd.R_celln 0 HO_0.out (x2_1 : Int) p4 q4
          replace p4 := eq_true p4
          replace q4 := eq_true q4
          have HP6 := Kd.R_putg HO_0.out (x2_1 : Int) (Go.bits .xor .u8 (rd x0_1 x2_1) 85)
          go_wp2_with (first | ((with_reducible refine gate_store (t := 5) (p := 14) rfl ?_); refine store_event (t := 5) (p := 14) (v := ?vo_w7) (w1 := (wr.setCell ⟨go4, (x2_1 : Int).toNat, none⟩ (.int .u8 (Go.bits .xor .u8 (rd x0_1 x2_1) 85)))) ?hg ?ho ?hn ?hr ?_; (case ho => rfl); (case hg => rfl); (case hn => rfl); (case hr => first | (go_simp; done) | (go_simp; rfl)); intro w7 hw; have hg : wr.grownBy w7 (some go4) := (by rw [hw]; exact HP6.2); have hp_ : Kd.R (Kd.int .u8) 5 w7 w0.heap.size (fun k_ => (P0_ k_ ∨ w.heap.size ≤ k_)) (.slice (some ⟨go4, 0, none⟩) x0_1.length co5) y207 := (by rw [hw, Ny207.out]; exact HP6.1); clear HP6; have n0_ := Aside0.mk (hp_); have n1_ := Aside0.mk ((by rw [hw]; exact below_set (HB.out) GB4.out : Below w0.heap.size w0 w7)); have n2_ := Aside0.mk (Kept.of_grown (S := (fun k_ => P0_ k_)) hg (by repeat (first | (with_reducible first | exact HK.out | apply Kept.alloc | apply Kept.drewN | apply Kept.drew) | exact HK.out)) (fun k_ e_ => (HO_0.out.1 k_ e_))); clear HO_0; clear HB; clear HK; have HO_0 := n0_; have HB := n1_; have HK := n2_; clear n0_ n1_ n2_; clear hg hw hp_))
          go_roundg k1
          case measure => have := HK1.out; omega
          case rel => exact ⟨(y207), (wrap64 (x2_1 + 1)), (by first | rfl | (simp; done) | (simp [*]; done)), H', ⟨by have := HK1.out; omega⟩, ⟨by (with_reducible repeat (first | apply Kd.R_alloc | apply Kd.R_drewN | apply Kd.R_drew)); exact HO_0.out⟩, ⟨by repeat (first | (with_reducible first | exact HK.out | apply Kept.alloc | apply Kept.drewN | apply Kept.drew) | exact HK.out)⟩, ⟨by repeat (first | (with_reducible first | exact HB.out | apply below_alloc | apply pw_below_drewN | apply below_drew1) | exact HB.out)⟩⟩
        · rw [if_neg c3] at H
          exact absurd H (by simp)
      · rw [if_neg c2] at H
        have c2b0 : decide (x2_1 < (x0_1.length : Int)) = false := decide_eq_false c2
        clear c2
        obtain rfl := Option.some.inj H
        obtain ⟨Ao8, co8, eo8⟩ := Kd.R_slice HO_0.out
        subst eo8
        go_wp2
        first | go_end0 | ((try simp only [Exit.inBlock, Exit.then]); refine bodyPost_ret (results_none rfl _ _ _) rfl ?_)
        exact ⟨by first | rfl | (simp [errW_none, errW_some] <;> rfl) | (simp [*, errW_none, errW_some] <;> rfl) | (exfalso; simp only [beq_iff_eq, decide_eq_true_eq] at *; omega), by (with_reducible repeat (first | apply Kd.R_alloc | apply Kd.R_drewN | apply Kd.R_drew)); exact HO_0.out, by repeat (first | (with_reducible first | exact HB.out | apply below_alloc | apply pw_below_drewN | apply below_drew1) | exact HB.out), by repeat (first | (with_reducible first | exact HK.out | apply Kept.alloc | apply Kept.drewN | apply Kept.drew) | exact HK.out)⟩

/-! ### undercroftlaw20_ClientOwn: function 6 -/
def undercroftlaw20_ClientOwn.f (k : Nat) (l0 : List S52) (a1 a2 : Int) (l3 : List Int) : Option Bool := (undercroftlaw20_alive.f k).bind fun t => if t = true then ((undercroftlaw20_Of.f k l0).bind fun tl => (undercroftplain_CopyBytes.f l3).bind fun b => (client_Done.f k tl a1 a2 b).bind fun d => (undercroftref20_Done.f k l0 a1 a2 l3).bind fun q => (undercroftplain_Spoil.f k b).bind fun _ => if (tl.all fun x => (undercroftplain_Spoil.f k x.f2).isSome) = true ∧ tl.length ≤ 4611686018427387904 then (if d.2 = q.2 then (undercroftlaw20_Alike.f k d.1 q.1).bind fun t => some (t == 0) else none) else none) else none
theorem own_gap {W : World} {base g n cap i : Nat} {okw : Nat → Prop} {xs : List S51} (h : Kd.S k51 51 W base okw (.slice (some ⟨g, 0, none⟩) n cap) xs) (hi : i < xs.length) :
    ∃ (oki : Nat → Prop) (v2 : Value), W.cell? ⟨g, i * 3, none⟩ = some (.int .i64 xs[i].f0) ∧ W.cell? ⟨g, i * 3 + 1, none⟩ = some (.int .i64 xs[i].f1) ∧ W.cell? ⟨g, i * 3 + 2, none⟩ = some v2 ∧ (∀ j, W.frozen? ⟨g, i * 3 + j, none⟩ = false) ∧ (∀ k, oki k → okw k ∧ k ≠ g) ∧ (Kd.int .u8).R 5 W base oki v2 xs[i].f2 ∧ Kd.H k51 51 W base okw (.slice (some ⟨g, 0, none⟩) n cap) xs (i : Int) oki [.int .i64 xs[i].f0, .int .i64 xs[i].f1, v2] := by
  have hn : n = xs.length := (Kd.S_reads' h).1
  obtain ⟨oki, c, hcl, hM, hcc, hfr, hoki, hH⟩ := Kd.S_elem h z51 (i : Int) (by omega) (by omega)
  rw [Int.toNat_natCast] at hM hcc hfr
  have e : xs.getD i z51 = xs[i] := by rw [List.getD_eq_getElem?_getD, List.getElem?_eq_getElem hi]; rfl
  rw [e] at hM
  obtain ⟨v2, rfl, hR⟩ := k51_openM hM
  exact ⟨oki, v2, hcc 0 _ rfl, hcc 1 _ rfl, hcc 2 _ rfl, hfr, hoki, hR, hH⟩
/-- Behind a reply's spoiling. -/
theorem own_back {W W1 : World} {base g n cap i : Nat} {okw oki : Nat → Prop} {xs : List S51} {v2 : Value} {f0 f1 : Int} {x2 r : List Int} (hH : Kd.H k51 51 W base okw (.slice (some ⟨g, 0, none⟩) n cap) xs (i : Int) oki [.int .i64 f0, .int .i64 f1, v2]) (hR : (Kd.int .u8).R 5 W base oki v2 x2) (hk : Kept W W1 oki) {ok' : Nat → Prop} (hR1 : (Kd.int .u8).R 5 W1 base ok' v2 r) :
    Kd.S k51 51 W1 base okw (.slice (some ⟨g, 0, none⟩) n cap) (xs.set i ⟨f0, f1, r⟩) := by
  have h1 : (Kd.int .u8).R 5 W1 base oki v2 r := Kd.R_mono (Kd.R_tight rfl hR1) (fun k hk => hR.1 k hk.symm)
  have h2 := Kd.H_back (Kd.H_kept hH hk (fun k _ h _ => h ‹_›)) (x' := (⟨f0, f1, r⟩ : S51)) (k51_mkM W1 base oki ⟨f0, f1, r⟩ h1) (fun _ h => h)
  rw [Int.toNat_natCast] at h2
  exact h2
/-- What the store of a session wants. -/
theorem own_put {W : World} {base g n cap i : Nat} {okw : Nat → Prop} {xs : List S51} (h : Kd.S k51 51 W base okw (.slice (some ⟨g, 0, none⟩) n cap) xs) (hi : i < xs.length) (y : Int) :
    ∃ (f : Nat → Nat) (v2 : Value), (Kd.tag f k51).R 51 W base okw (.slice (some ⟨g, 0, none⟩) n cap) xs.zipIdx ∧ (∀ j u, [Value.int .i64 xs[i].f0, .int .i64 xs[i].f1, v2][j]? = some u → W.cell? ⟨g, (i : Int).toNat * (Kd.tag f k51).sz + j, none⟩ = some u) ∧ (Kd.tag f k51).M W base (fun k => okw k ∧ k ≠ g) ((⟨y, xs[i].f1, xs[i].f2⟩ : S51), i) [.int .i64 y, .int .i64 xs[i].f1, v2] := by
  obtain ⟨f, hR⟩ := h
  have hn : n = xs.length := by have := (Kd.R_reads' hR).1; rwa [List.length_zipIdx] at this
  obtain ⟨c, hcl, hM, hcc, _⟩ := Kd.R_elem hR (z51, 0) (i : Int) (by omega) (by omega)
  have e : xs.zipIdx.getD ((i : Int).toNat) (z51, 0) = (xs[i], i) := by rw [Int.toNat_natCast, List.getD_eq_getElem?_getD, Kd.zip_at (List.getElem?_eq_getElem hi)]; rfl
  rw [e] at hM
  have hM' : k51.M W base (fun k => (okw k ∧ k ≠ g) ∧ f k = i) xs[i] c := hM
  obtain ⟨v2, rfl, hR2⟩ := k51_openM hM'
  refine ⟨f, v2, hR, hcc, ?_⟩
  have h2 : k51.M W base (fun k => (okw k ∧ k ≠ g) ∧ f k = i) (⟨y, xs[i].f1, xs[i].f2⟩ : S51) [.int .i64 y, .int .i64 xs[i].f1, v2] := k51_mkM _ _ _ ⟨y, xs[i].f1, xs[i].f2⟩ hR2
  exact h2
theorem size3 : (Try.prog.info? 3).map (·.size) = some 1 := by kernel_rfl
theorem undercroftlaw20_ClientOwn.mono : ∀ a0 a1 a2 a3 k, LeO (undercroftlaw20_ClientOwn.f k a0 a1 a2 a3) (undercroftlaw20_ClientOwn.f (k + 1) a0 a1 a2 a3) := by
  intro a0 a1 a2 a3 k
  unfold undercroftlaw20_ClientOwn.f
  refine LeO.bind (undercroftlaw20_alive.mono k) (fun _ => LeO.ite (LeO.bind (undercroftlaw20_Of.mono _ k) (fun tl => LeO.bind (LeO.refl _) (fun b => LeO.bind (client_Done.mono _ _ _ _ k) (fun d => LeO.bind (undercroftref20_Done.mono _ _ _ _ k) (fun q => LeO.bind (undercroftplain_Spoil.mono _ k) (fun _ => ?_)))))) (LeO.refl _))
  by_cases h : (tl.all fun x => (undercroftplain_Spoil.f k x.f2).isSome) = true ∧ tl.length ≤ 4611686018427387904
  · have h' : (tl.all fun x => (undercroftplain_Spoil.f (k + 1) x.f2).isSome) = true ∧ tl.length ≤ 4611686018427387904 := ⟨by
      rw [List.all_eq_true] at *
      intro x hx
      obtain ⟨r, hr⟩ := Option.isSome_iff_exists.1 (h.1 x hx)
      rw [undercroftplain_Spoil.mono _ k r hr]; rfl, h.2⟩
    rw [if_pos h, if_pos h']
    exact LeO.ite (LeO.bind (undercroftlaw20_Alike.mono _ _ k) (fun _ => LeO.refl _)) (LeO.refl _)
  · rw [if_neg h]
    exact LeO.none _
set_option maxHeartbeats 8000000 in
set_option maxRecDepth 100000 in
theorem undercroftlaw20_ClientOwn.calls (k : Nat) (A0 : Option Addr) (c0 : Nat) (l0 : List S52) (a1 a2 : Int) (A3 : Option Addr) (c3 : Nat) (l3 : List Int) (r : Bool) (w : World) (hr0 : Kd.C k52 w A0 l0.length l0) (hc0 : l0.length ≤ c0) (hr3 : Kd.C (Kd.int .u8) w A3 l3.length l3) (hc3 : l3.length ≤ c3) (h : undercroftlaw20_ClientOwn.f k l0 a1 a2 l3 = some r) :
    Calls Try.prog 6 #[.slice A0 l0.length c0, .int .i64 a1, .int .i64 a2, .slice A3 l3.length c3] w fun e w' => e = .returned (.bool r) ∧ Below w.heap.size w w' := by
  have HR0 := Aside0.mk hr0
  have HC0 := Aside0.mk hc0
  have HR3 := Aside0.mk hr3
  have HC3 := Aside0.mk hc3
  unfold undercroftlaw20_ClientOwn.f at h
  obtain ⟨t, h1, g1⟩ := Option.bind_eq_some_iff.1 h
  by_cases ht : t = true
  case neg => rw [if_neg ht] at g1; cases g1
  subst ht
  rw [if_pos rfl] at g1
  obtain ⟨tl, h2, g2⟩ := Option.bind_eq_some_iff.1 g1
  obtain ⟨b, h3, g3⟩ := Option.bind_eq_some_iff.1 g2
  obtain ⟨⟨d, d2⟩, h4, g4⟩ := Option.bind_eq_some_iff.1 g3
  obtain ⟨⟨q, q2⟩, h5, g5⟩ := Option.bind_eq_some_iff.1 g4
  obtain ⟨sp, h6, g6⟩ := Option.bind_eq_some_iff.1 g5
  simp only at g6
  by_cases ha : (tl.all fun x => (undercroftplain_Spoil.f k x.f2).isSome) = true ∧ tl.length ≤ 4611686018427387904
  case neg => rw [if_neg ha] at g6; cases g6
  rw [if_pos ha] at g6
  by_cases hd : d2 = q2
  case neg => rw [if_neg hd] at g6; cases g6
  rw [if_pos hd] at g6
  obtain ⟨al, h7, g7⟩ := Option.bind_eq_some_iff.1 g6
  have hr := Option.some.inj g7
  subst hd
  have A1 := Aside0.mk h1
  have A2 := Aside0.mk h2
  have A3_ := Aside0.mk h3
  have A4 := Aside0.mk h4
  have A5 := Aside0.mk h5
  have A6 := Aside0.mk h6
  have A7 := Aside0.mk h7
  have AA := Aside0.mk ha.1
  have hlt63 : tl.length ≤ 4611686018427387904 := ha.2
  have HLT := Aside0.mk hlt63
  have HR := Aside0.mk hr
  clear h g1 g2 g3 g4 g5 g6 g7 h1 h2 h3 h4 h5 h6 h7 ha hr0 hc0 hr3 hc3 hr hlt63
  go_enter Try.func6, Try.ntmps6
  go_wp2_with (first
    | (go_at_call 18; refine (undercroftlaw20_alive.calls k true _ A1.out).mono ?_; rintro e w1 ⟨rfl, hb1⟩; have HB1 := Aside0.mk hb1; clear hb1)
    | (go_at_call 7; refine (undercroftlaw20_Of.calls k A0 c0 l0 tl _ (Kd.C_below HR0.out HB1.out) HC0.out A2.out).mono ?_; rintro e w2 ⟨v2, rfl, ho2, hb2⟩; obtain ⟨D9, e9, rfl⟩ := Kd.S_slice ho2; have HS2 := Aside0.mk ho2; have HB2 := Aside0.mk (below_step HB1.out hb2); clear ho2 hb2)
    | (go_at_call 8; refine (undercroftplain_CopyBytes.calls A3 c3 l3 b _ (Kd.C_below HR3.out HB2.out) HC3.out A3_.out).mono ?_; rintro e w3 ⟨v3, rfl, ho3, hb3⟩; obtain ⟨D10, e10, rfl⟩ := Kd.R_slice ho3; have HOWN := Aside0.mk (Kd.S_mono (ok' := fun k_ => k_ < w3.heap.size ∧ some k_ ≠ (Value.slice D10 b.length e10).ownBlock) (Kd.S_lower (Kd.S_below (Kd.S_bound HS2.out) hb3) (show w.heap.size ≤ _ from HB1.out.size)) (fun k_ hk_ => ⟨Nat.lt_of_lt_of_le hk_.2.2.1 hb3.size, fun e_ => by have e1_ := Kd.R_base ho3 k_ e_.symm; have e2_ := hk_.2.2.1; omega⟩)); have HIN := Aside0.mk (Kd.R_lower ho3 HB2.out.size); have HBW := Aside0.mk (below_step HB2.out hb3); clear ho3 hb3)
    | (go_at_call 11; refine (client_Done.calls k D9 e9 tl a1 a2 D10 e10 b d d2 _ (Kd.S_reads' HOWN.out).2.2 (Kd.S_reads' HOWN.out).2.1 (Kd.R_reads' HIN.out).2.2 (Kd.R_reads' HIN.out).2.1 A4.out).mono ?_; rintro e w4 ⟨v4, rfl, ho4, hb4⟩; obtain ⟨D11, e11, rfl⟩ := Kd.S_slice ho4; have HD4 := Aside0.mk ho4; have HB4 := Aside0.mk hb4; clear ho4 hb4)
    | (go_at_call 12; refine (undercroftref20_Done.calls k A0 c0 l0 a1 a2 A3 c3 l3 q d2 _ (Kd.C_below HR0.out (below_step HBW.out HB4.out)) HC0.out (Kd.C_below HR3.out (below_step HBW.out HB4.out)) HC3.out A5.out).mono ?_; rintro e w5 ⟨v5, rfl, ho5, hb5⟩; obtain ⟨D13, e13, rfl⟩ := Kd.S_slice ho5; have HQ5 := Aside0.mk (Kd.S_lower ho5 HB4.out.size); have HD5 := Aside0.mk (Kd.S_below HD4.out hb5); have HB5 := Aside0.mk (below_step HB4.out hb5); clear ho5 hb5)
    | (go_at_call 19; refine (undercroftplain_Spoil.calls k (fun k_ => some k_ = (Value.slice D10 b.length e10).ownBlock) (Value.slice D10 b.length e10) b sp w _ (below_step HBW.out HB5.out) (Kd.R_tight rfl (Kd.R_below HIN.out HB5.out)) A6.out).mono ?_; rintro e w6 ⟨rfl, _, hb6, hk6⟩; have HB6 := Aside0.mk hb6; have HK6 := Aside0.mk hk6; clear hb6 hk6))
  have HS6 := Aside0.mk (Kd.S_mono (ok' := fun k_ => k_ < w3.heap.size) (Kd.S_kept (Kd.S_below HOWN.out HB5.out) HK6.out (fun k_ hk_ he_ => hk_.2 he_)) (fun _ hk_ => hk_.1))
  have hin3 : ∀ k_, some k_ = (Value.slice D10 b.length e10).ownBlock → k_ < w3.heap.size := fun k_ he_ => Kd.R_lt HIN.out k_ he_.symm
  have HD6 := Aside0.mk (Kd.S_mono (ok' := fun k_ => w3.heap.size ≤ k_) (Kd.S_kept (Kd.S_bound HD5.out) HK6.out (fun k_ hk_ he_ => by have h1_ := hin3 k_ he_; have h2_ := hk_.2.1; omega)) (fun _ hk_ => hk_.2.1))
  have HQ6 := Aside0.mk (Kd.S_mono (ok' := fun k_ => w3.heap.size ≤ k_) (Kd.S_kept (Kd.S_bound HQ5.out) HK6.out (fun k_ hk_ he_ => by have h1_ := hin3 k_ he_; have h2_ := hk_.2.1; omega)) (fun _ hk_ => hk_.2.1))
  have hw3 : w.heap.size ≤ w3.heap.size := HBW.out.size
  have hw36 : w3.heap.size ≤ w6.heap.size := Nat.le_trans HB5.out.size HK6.out.1
  clear HOWN HIN HD4 HD5 HQ5 HK6 hin3 HS2 A1 A2 A3_ A4 A5 A6
  obtain ⟨N, hN⟩ : ∃ N, N = tl.length := ⟨_, rfl⟩
  have HN := Aside0.mk hN
  have hN63 : N ≤ 4611686018427387904 := by rw [hN]; exact HLT.out
  rw [← hN]
  rw [← hN] at HS6
  clear hN
  go_loopw [15] (fun v15 W => ∃ (m : Nat) (xs : List S51), m ≤ N ∧ v15 = .int .i64 (m : Int) ∧ Aside0 (xs.length = N) ∧ Aside0 (xs.drop m = tl.drop m) ∧ Aside0 (Kd.S k51 51 W w.heap.size (fun k_ => k_ < w3.heap.size) (.slice D9 N e9) xs) ∧ Aside0 (Kept w6 W (fun k_ => k_ < w3.heap.size)) ∧ Aside0 (Below w.heap.size w W)) (fun v15 _ => N - (intOf v15).toNat)
  case atStart => exact ⟨0, tl, Nat.zero_le _, rfl, ⟨HN.out.symm⟩, ⟨rfl⟩, HS6, ⟨Kept.refl _ _⟩, HB6⟩
  case round =>
    obtain ⟨m, xs, hm, rfl, HXL, HXD, HW, HK, HBw⟩ := hrel
    by_cases hlt : m < N
    · have hd : decide ((m : Int) < (N : Int)) = true := by simp; omega
      have hmL : m < xs.length := by have := HXL.out; omega
      obtain ⟨g, cap, he, hg1, hg2, cells, hgc⟩ := Kd.S_form HW.out (by omega)
      have hgN : g < w3.heap.size := Kd.S_R HW.out |>.1 g (by rw [he]; simp [Value.ownBlock])
      injection he with he1 he2 he3
      clear he2
      subst he1 he3
      clear hgc hg2 hg1
      obtain ⟨oki, v2, hx0, hx1, hx2, hf, hoki, hR2, hH⟩ := own_gap HW.out hmL
      have hsp : ∃ r2, undercroftplain_Spoil.f k xs[m].f2 = some r2 := by
        have h1 : tl[m]? = xs[m]? := by
          have h2 := congrArg (fun l => l[0]?) HXD.out
          simpa [List.getElem?_drop] using h2.symm
        have h3 : xs[m] ∈ tl := by
          rw [List.getElem?_eq_getElem hmL] at h1
          exact List.mem_of_getElem? h1
        exact Option.isSome_iff_exists.1 (List.all_eq_true.1 AA.out _ h3)
      obtain ⟨r2, hr2⟩ := hsp
      have HSP := Aside0.mk hr2
      have HR2 := Aside0.mk hR2
      have HH := Aside0.mk hH
      have HOK := Aside0.mk hoki
      have hx0' : wr.frozen? ⟨g, m * 3, none⟩ = false := hf 0
      clear hr2 hR2 hH hoki hx0 hx1 hf
      have HX := Aside0.mk (show (xs.set m (⟨xs[m].f0, xs[m].f1, r2⟩ : S51)).length = xs.length from List.length_set)
      generalize hx : xs[m] = x at *
      clear hx
      go_wp2_with (first
        | (go_at_call 19; refine (undercroftplain_Spoil.calls k oki v2 x.f2 r2 w _ HBw.out HR2.out HSP.out).mono ?_; rintro e w7 ⟨rfl, hr7, hb7, hk7⟩; go_loud (have hs7 := own_back HH.out HR2.out hk7 hr7; have HB7 := Aside0.mk hb7; have HK7 := Aside0.mk (HK.out.then_ hk7 (fun k_ hk_ => .inl (HOK.out k_ hk_).1)); have hm7 : m < (xs.set m (⟨x.f0, x.f1, r2⟩ : S51)).length := Nat.lt_of_lt_of_eq hmL HX.out.symm; obtain ⟨ff, vv, hT, hTc, hTM⟩ := own_put hs7 hm7 (-1); simp only [List.getElem_set_self] at hTc hTM; have HT := Aside0.mk hT; have HTC := Aside0.mk hTc; have HTM := Aside0.mk hTM; clear hr7 hb7 hk7 hs7 hT hTc hTM))
        | ((with_reducible refine gate_ (.store 3 (.tmp 55) (.const (.int .i64 (-1)))) rfl ?_); (refine Kd.R_store (Kd.tag ff k51) (w0 := w) w.heap.size rfl rfl 3 (.tmp 55) (.const (.int .i64 (-1))) rfl 51 (g := g) (n := N) (cap := e9) (m : Int) 0 ((xs.set m (⟨x.f0, x.f1, r2⟩ : S51)).zipIdx) ((⟨-1, x.f1, r2⟩ : S51), m) (.int .i64 (-1)) [.int .i64 (-1)] [.int .i64 x.f0, .int .i64 x.f1, vv] (fun k_ => k_ < w3.heap.size) (fun k_ => k_ < w3.heap.size ∧ k_ ≠ g) rfl (by simp [Kd.tag]; rfl) rfl rfl size3 (by intro q_ hq_; rw [List.mem_singleton.1 hq_]; rfl) HT.out (by omega) (by omega) rfl HTC.out (show 0 + 1 ≤ 3 by decide) HTM.out (fun _ h_ => h_) HB7.out ?_); intro w8 ho8 hb8 hg8; have HO8 := Aside0.mk ho8; have HB8 := Aside0.mk hb8; have HK8 := Aside0.mk (Kept.of_grown hg8 HK7.out (fun k_ he_ => by cases he_; exact .inl hgN)); clear ho8 hb8 hg8))
      have hw : wrap64 ((m : Int) + 1) = ((m + 1 : Nat) : Int) := by unfold wrap64; omega
      refine ⟨⟨m + 1, (xs.set m (⟨x.f0, x.f1, r2⟩ : S51)).set m ⟨-1, x.f1, r2⟩, hlt, by simp, ⟨by rw [List.length_set, List.length_set]; exact HXL.out⟩, ⟨?_⟩, ⟨by have h_ := HO8.out; rw [Int.toNat_natCast, zipIdx_set] at h_; exact ⟨_, h_⟩⟩, HK8, HB8⟩, by simp only [intOf]; omega⟩
      rw [List.drop_set, if_pos (by omega), List.drop_set, if_pos (by omega), ← List.drop_drop, HXD.out, List.drop_drop]
    · have hmN : m = N := by omega
      have hd : decide ((m : Int) < (N : Int)) = false := by simp; omega
      have HDW := Aside0.mk (Kd.S_kept HD6.out HK.out (fun k_ h1_ h2_ => by omega))
      have HQW := Aside0.mk (Kd.S_kept HQ6.out HK.out (fun k_ h1_ h2_ => by omega))
      have q1 : (d2 == d2) = true := by simp
      go_wp2_with (first
        | (go_at_call 14; refine (undercroftlaw20_num.calls d2 d2 _ rfl).mono ?_; rintro e w9 ⟨rfl, hd9⟩; obtain ⟨nd9, rfl⟩ := hd9.out)
        | (go_at_call 15; refine (undercroftlaw20_Alike.calls k D11 e11 d D13 e13 q al _ (Kd.C_drewN (Kd.S_reads' HDW.out).2.2 _) (Kd.S_reads' HDW.out).2.1 (Kd.C_drewN (Kd.S_reads' HQW.out).2.2 _) (Kd.S_reads' HQW.out).2.1 A7.out).mono ?_; rintro e w10 ⟨rfl, hb10⟩; have HB10 := Aside0.mk (below_step (pw_below_drewN HBw.out _) hb10); clear hb10))
      go_ret
      exact ⟨by rw [← HR.out]; rfl, HB10.out⟩

end Go.Proofs.Ytofflfacfjkikaa.PCli
