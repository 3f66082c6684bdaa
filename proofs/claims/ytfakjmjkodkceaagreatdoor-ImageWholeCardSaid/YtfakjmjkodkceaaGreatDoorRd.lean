/- Data that came in, read as the print's own kinds ('Kd'): whole numbers, bools, strings, slices and structs of such, nested. For the rows of laws whose parameters the print does not open. -/
import Derived.Test.YtfakjmjkodkceaaGreatDoorWWords
import Derived.Test.YtfakjmjkodkceaaGreatDoorRows
import Derived.Deep.Slices
import Derived.ChangeArms
import Derived.DataReads
import Derived.SizedLaws
namespace Go.Proofs.YtfakjmjkodkceaaGreatDoor.Rd
open Go.RowKit Go.Deep Go.Proofs.YtfakjmjkodkceaaGreatDoorW.PrintWords
/-- A datum of type t reads as the kind d; 'ok' is what is known of it (numbers within their kinds, lengths within the reach), 'm' what it weighs at the least ('uptoBulk'). -/
def Opens (P : Program) (t : TypeId) {α : Type} (d : Kd α) (ok : α → Prop) (m : α → Nat) : Prop :=
 ∀ {H : Type} (enc : TypeId × Value → H) (w : World) (fuel : Nat) (cs : List Value) (x : DataW H × List MemPlace),
  DataW.trod enc P w 0 (fun _ => true) true fuel t cs = some x → (∀ n ∈ DataW.weights P t x.1, n ≤ 140737488351232) → ∃ y, d.K w y cs ∧ ok y ∧ m y + 1 ≤ Rows.uptoBulk x.1
theorem opens_int {P : Program} {t : TypeId} {k : IntKind} (ht : P.underlying t = some (.int k)) : Opens P t (Kd.int k) (fun n => (Lit.int k n).wf = true) (fun _ => 0) := by
 intro H enc w fuel cs x h _
 obtain ⟨n, rfl, rfl, hw⟩ := DataW.trod_int ht h
 exact ⟨n, rfl, hw, by simp [Rows.uptoBulk]⟩
theorem opens_bool {P : Program} {t : TypeId} (ht : P.underlying t = some .bool) : Opens P t Kd.bool (fun _ => True) (fun _ => 0) := by
 intro H enc w fuel cs x h _
 obtain ⟨b, rfl, rfl⟩ := DataW.trod_bool ht h
 exact ⟨b, rfl, trivial, by simp [Rows.uptoBulk]⟩
theorem opens_string {P : Program} {t : TypeId} (ht : P.underlying t = some .string) : Opens P t Kd.string (fun s => s.size ≤ 140737488351232) (fun s => s.size) := by
 intro H enc w fuel cs x h hw
 obtain ⟨s, rfl, rfl, _⟩ := DataW.trod_string ht h
 have := hw s.data.toList.length (by simp [DataW.weights])
 rw [data_length] at this
 refine ⟨s, rfl, this, ?_⟩
 simp only [Rows.uptoBulk, data_length]
 exact Nat.le_refl _
theorem opens_iso {P : Program} {t : TypeId} {α β : Type} {d : Kd α} {ok : α → Prop} {m : α → Nat} (h : Opens P t d ok m) (f : β → α) (g : α → β) (hg : ∀ y, f (g y) = y) : Opens P t (Kd.iso d f) (fun x => ok (f x)) (fun x => m (f x)) := by
 intro H enc w fuel cs x h1 h2
 obtain ⟨y, hy, hk, hb⟩ := h enc w fuel cs x h1 h2
 exact ⟨g y, by show d.K w (f (g y)) cs; rw [hg]; exact hy, by show ok (f (g y)); rw [hg]; exact hk, by show m (f (g y)) + 1 ≤ _; rw [hg]; exact hb⟩
theorem list_of {α : Type} (p : Nat → α → Prop) : ∀ n, (∀ i, i < n → ∃ x, p i x) → ∃ ys : List α, ys.length = n ∧ ∀ i x, ys[i]? = some x → p i x
 | 0, _ => ⟨[], rfl, fun i x h => by simp at h⟩
 | n + 1, h => by
  obtain ⟨ys, hl, hy⟩ := list_of p n (fun i hi => h i (by omega))
  obtain ⟨x, hx⟩ := h n (by omega)
  refine ⟨ys ++ [x], by simp [hl], fun i z hz => ?_⟩
  rcases Nat.lt_or_ge i n with hi | hi
  ·rw [List.getElem?_append_left (by omega)] at hz
   exact hy i z hz
  ·rw [List.getElem?_append_right (by omega)] at hz
   obtain ⟨h1, h2⟩ := List.getElem?_eq_some_iff.1 hz
   simp at h1
   have : i = n := by omega
   subst this
   simp [hl] at h2
   subst h2
   exact hx
theorem bulk_sum {H α : Type} (m : α → Nat) : ∀ (ds : List (DataW H)) (ys : List α), ys.length = ds.length → (∀ (i : Nat) (y : α) (e : DataW H), ys[i]? = some y → ds[i]? = some e → m y + 1 ≤ Rows.uptoBulk e) → ys.length + (ys.map m).sum ≤ Rows.uptoBulkAll ds
 | [], [], _, _ => Nat.zero_le _
 | e :: ds, y :: ys, hl, h => by
  have h0 := h 0 y e rfl rfl
  have h1 := bulk_sum m ds ys (by simpa using hl) (fun i y2 e2 a b => h (i + 1) y2 e2 (by simpa using a) (by simpa using b))
  simp only [List.map_cons, List.sum_cons, List.length_cons, Rows.uptoBulkAll]
  omega
 | [], _ :: _, hl, _ => by cases hl
 | _ :: _, [], hl, _ => by cases hl
theorem weightsAll_mem {H : Type} {P : Program} {e : TypeId} {d : DataW H} : ∀ {l : List (DataW H)}, d ∈ l → ∀ n ∈ DataW.weights P e d, n ∈ DataW.weightsAll P e l
 | x :: r, h, n, hn => by
  simp only [DataW.weightsAll, List.mem_append]
  rcases List.mem_cons.1 h with e | e
  ·subst e; exact .inl hn
  ·exact .inr (weightsAll_mem e n hn)
theorem opens_slice {P : Program} {t e : TypeId} {α : Type} {d : Kd α} {ok : α → Prop} {m : α → Nat} {B : Nat} (ht : P.underlying t = some (.slice e)) (hc : P.cellsOf e = d.sz) (hB : P.bytesOf e = B) (h : Opens P e d ok m) :
  Opens P t (Kd.slice e d) (fun xs => xs.length * B ≤ 140737488351232 ∧ xs.length ≤ maxLen ∧ ∀ x ∈ xs, ok x) (fun xs => xs.length + (xs.map m).sum) := by
 intro H enc w fuel cs x h1 h2
 rcases open_slice ht h1 with ⟨rfl, rfl⟩ | ⟨a, len, cap, mm, n, D, Pl, rfl, _, hl, hm, hmm, rfl, hx⟩
 ·exact ⟨[], ⟨none, 0, rfl, Nat.le_refl _, rfl, by simp, fun h => absurd h (by simp)⟩, ⟨by simp, by simp, fun x hx => by cases hx⟩, by simp [Rows.uptoBulk]⟩
 ·have hlm : len ≤ mm := by rw [hmm]; split <;> omega
  obtain ⟨ys, hyl, hy⟩ := list_of (fun i y => ∃ c, w.cells? 0 (a.add (i * P.cellsOf e)) (P.cellsOf e) = some c ∧ d.K w y c ∧ ok y ∧ m y + 1 ≤ Rows.uptoBulk (D i)) len (fun i hi => by
   obtain ⟨c, hcs, htr⟩ := hx i (by omega)
   obtain ⟨y, hK, hok, hbk⟩ := h enc w n c _ htr (fun q hq => h2 q (by
    simp only [DataW.weights, ht, List.mem_cons, List.mem_append]
    exact .inr (.inl (weightsAll_mem (List.mem_map.2 ⟨i, List.mem_range.2 hi, rfl⟩) q hq))))
   exact ⟨y, c, hcs, hK, hok, hbk⟩)
  have hw := h2 ((((List.range len).map D).length + ((List.range (mm - len)).map fun j => D (len + j)).length) * P.bytesOf e) (by simp [DataW.weights, ht])
  simp only [List.length_map, List.length_range, hB] at hw
  have hwl : len * B ≤ 140737488351232 := Nat.le_trans (Nat.mul_le_mul_right _ (by omega)) hw
  refine ⟨ys, ⟨some a, cap, by rw [hyl], by omega, rfl, by rw [hyl]; unfold maxLen at hm; omega, fun _ => ⟨a, rfl, fun j p hp => ?_⟩⟩, ⟨by rw [hyl]; exact hwl, by omega, fun x hx => ?_⟩, ?_⟩
  ·obtain ⟨c, hcs, hK, _⟩ := hy j p hp
   obtain ⟨_, hcl, hcell⟩ := World.cells?_some hcs
   refine ⟨c, by rw [hcl, hc], hK, fun i u hu => ?_⟩
   have hi : i < P.cellsOf e := by rw [← hcl]; exact (List.getElem?_eq_some_iff.1 hu).1
   have := hcell i hi
   rw [Go.Deep.add_add, hc] at this
   rw [this, hu]
  ·obtain ⟨i, hi, rfl⟩ := List.getElem_of_mem hx
   obtain ⟨_, _, _, hok, _⟩ := hy i _ (List.getElem?_eq_getElem hi)
   exact hok
  ·have := bulk_sum m ((List.range len).map D) ys (by simp [hyl]) (fun i y e a b => by
    obtain ⟨_, _, _, _, hbk⟩ := hy i y a
    have hi : i < len := by rw [← hyl]; exact (List.getElem?_eq_some_iff.1 a).1
    have e2 : e = D i := by
     rw [List.getElem?_map, List.getElem?_range hi] at b
     exact (Option.some.inj b).symm
    rw [e2]; exact hbk)
   simp only [Rows.uptoBulk]
   omega
/-- The fields of a struct, from one on, read one behind the other. -/
def OpensF (P : Program) (fs : List Field) (o : Nat) {α : Type} (d : Kd α) (ok : α → Prop) (m : α → Nat) : Prop :=
 ∀ {H : Type} (enc : TypeId × Value → H) (w : World) (fuel : Nat) (cs : List Value) (xs : List (DataW H × List MemPlace)),
  (∀ (i : Nat) (f : Field), fs[i]? = some f → DataW.trod enc P w 0 (fun _ => true) true fuel f.type ((cs.drop f.offset).take (P.cellsOf f.type)) = xs[i]?) → xs.length = fs.length →
  (∀ n ∈ DataW.weightsEach P (fs.map (·.type)) (xs.map (·.1)), n ≤ 140737488351232) → ∃ y, d.K w y ((cs.drop o).take d.sz) ∧ ok y ∧ m y + 1 ≤ Rows.uptoBulkAll (xs.map (·.1))
theorem opensF_one {P : Program} {f : Field} {o : Nat} {α : Type} {d : Kd α} {ok : α → Prop} {m : α → Nat} (ho : f.offset = o) (hc : P.cellsOf f.type = d.sz) (h : Opens P f.type d ok m) : OpensF P [f] o d ok m := by
 intro H enc w fuel cs xs h1 h2 h3
 match xs, h2 with
 | [x], _ =>
  have := h1 0 f rfl
  rw [ho, hc] at this
  obtain ⟨y, hy, hk, hb⟩ := h enc w fuel _ x this (fun n hn => h3 n (by simp [DataW.weightsEach]; exact hn))
  exact ⟨y, hy, hk, by simp only [List.map_cons, List.map_nil, Rows.uptoBulkAll]; omega⟩
theorem opensF_cons {P : Program} {f : Field} {fs : List Field} {o o2 : Nat} {α β : Type} {d0 : Kd α} {d1 : Kd β} {ok0 : α → Prop} {ok1 : β → Prop} {m0 : α → Nat} {m1 : β → Nat} (ho : f.offset = o) (hc : P.cellsOf f.type = d0.sz) (ho2 : o2 = o + d0.sz) (h : Opens P f.type d0 ok0 m0) (hs : OpensF P fs o2 d1 ok1 m1) :
  OpensF P (f :: fs) o (Kd.pair d0 d1) (fun x => ok0 x.1 ∧ ok1 x.2) (fun x => m0 x.1 + m1 x.2) := by
 intro H enc w fuel cs xs h1 h2 h3
 match xs, h2 with
 | x :: r, h2 =>
  have e := h1 0 f rfl
  rw [ho, hc] at e
  obtain ⟨y0, hy0, hk0, hb0⟩ := h enc w fuel _ x e (fun n hn => h3 n (by simp [DataW.weightsEach]; exact .inl hn))
  obtain ⟨y1, hy1, hk1, hb1⟩ := hs enc w fuel cs r (fun i g hg => h1 (i + 1) g hg) (by simpa using h2) (fun n hn => h3 n (by simp [DataW.weightsEach]; exact .inr (by simpa using hn)))
  refine ⟨(y0, y1), ⟨_, _, ?_, hy0, hy1⟩, ⟨hk0, hk1⟩, ?_⟩
  ·show (cs.drop o).take (d0.sz + d1.sz) = _
   rw [List.take_add, List.drop_drop, ho2]
  ·simp only [List.map_cons, Rows.uptoBulkAll]
   omega
theorem opens_struct {P : Program} {t : TypeId} {fs : Array Field} {α : Type} {d : Kd α} {ok : α → Prop} {m : α → Nat} (ht : P.underlying t = some (.struct fs)) (hc : P.cellsOf t = d.sz) (h : OpensF P fs.toList 0 d ok m) : Opens P t d ok m := by
 intro H enc w fuel cs x h1 h2
 obtain ⟨xs, n, rfl, rfl, hl, hxl, hx⟩ := DataW.trod_struct ht h1
 obtain ⟨y, hy, hk, hb⟩ := h enc w n cs xs (fun i f hf => hx i f (by rw [← Array.getElem?_toList]; exact hf)) (by simpa using hxl) (fun q hq => h2 q (by simp only [DataW.weights, ht]; exact hq))
 rw [List.drop_zero, List.take_of_length_le (by rw [hl, hc]; exact Nat.le_refl _)] at hy
 exact ⟨y, hy, hk, by simp only [Rows.uptoBulk]; omega⟩
/-- One parameter of a row. -/
theorem opens_param {P : Program} {t : TypeId} {α : Type} {d : Kd α} {ok : α → Prop} {m : α → Nat} (h : Opens P t d ok m) {H : Type} {enc : TypeId × Value → H} {W : World} {v : Value} {x : DataW H} {ps : List MemPlace} (hd : DataW.Trod enc P W 0 (fun _ => true) true t v x ps)
  {ts : List TypeId} {ds : List (DataW H)} (hsz : (DataW.weightsEach P ts ds).all (· ≤ reachBytes) = true) {j : Nat} (ht : ts[j]? = some t) (hdj : ds[j]? = some x) : ∃ y, d.K W y v.cells.toList ∧ ok y ∧ m y + 1 ≤ Rows.uptoBulk x := by
 obtain ⟨fuel, hf⟩ := hd
 exact h enc W fuel _ _ hf (fun n hn => by
  have := List.all_eq_true.1 hsz n (DataW.weights_mem_each ht hdj n hn)
  have h2 : n ≤ reachBytes := by simpa using this
  exact h2)
end Go.Proofs.YtfakjmjkodkceaaGreatDoor.Rd
