/- Rows of bytes and of numbers. -/
import Derived.Test.YtokmcighnjhfjaaGreatEvA
import Derived.Test.YtokmcighnjhfjaaGreatEvF
import Derived.Sort.AssemblyPlain
import Derived.Test.YtokmcighnjhfjaaGreatDTab
import Derived.Sort.Lot0
set_option linter.unusedSimpArgs false
namespace Go.Proofs.J
open Go Go.Ev
def i64s (l : List Int) : List Value := l.map (Value.int .i64)
set_option linter.unusedVariables false
set_option linter.unusedSimpArgs false
/-! ### names -/
def lowc (w : UInt8) : Prop := 97 ≤ w.toNat ∧ w.toNat ≤ 122
def digc (w : UInt8) : Prop := 48 ≤ w.toNat ∧ w.toNat ≤ 57
instance (w : UInt8) : Decidable (lowc w) := by unfold lowc; infer_instance
instance (w : UInt8) : Decidable (digc w) := by unfold digc; infer_instance
def IsName (s : ByteArray) : Prop := 1 ≤ s.size ∧ s.size ≤ 12 ∧ ∀ i (h : i < s.size), lowc s[i] ∨ (digc s[i] ∧ i ≠ 0)
/-- The words that begin shapes: flag, max, set, once, map, pair. -/
def wordL : List ByteArray := [⟨#[102, 108, 97, 103]⟩, ⟨#[109, 97, 120]⟩, ⟨#[115, 101, 116]⟩, ⟨#[111, 110, 99, 101]⟩, ⟨#[109, 97, 112]⟩, ⟨#[112, 97, 105, 114]⟩]
def IsTableName (s : ByteArray) : Prop := IsName s ∧ s ∉ wordL
/-! ### tables -/
structure Tbl where
  name : ByteArray
  elems : List ByteArray
  above : List (List Int)
  wrong : List Bool
/-- A row of numbers that may stand above an element. -/
def RowOk (n : Nat) (l : List Int) : Prop := (∀ i (h : i < l.length), 0 ≤ l[i] ∧ l[i] < n) ∧ ∀ i (h : i + 1 < l.length), l[i] < l[i + 1]
def Tbl.Ok (t : Tbl) : Prop :=
  IsTableName t.name ∧ 1 ≤ t.elems.length ∧ t.elems.length ≤ 12 ∧ t.above.length = t.elems.length ∧ t.wrong.length = t.elems.length ∧
  (∀ i (h : i < t.elems.length), IsName t.elems[i]) ∧ (∀ i j (h : i < t.elems.length) (hj : j < i), t.elems[j] ≠ t.elems[i]) ∧ ∀ i (h : i < t.above.length), RowOk t.elems.length t.above[i]
/-- One step. -/
def Tbl.E (t : Tbl) (a b : Nat) : Prop := ∃ h : a < t.above.length, (b : Int) ∈ t.above[a]
/-- One step or more. -/
inductive Tbl.St (t : Tbl) : Nat → Nat → Prop
  | one {a b : Nat} (h : t.E a b) : Tbl.St t a b
  | more {a b c : Nat} (h : Tbl.St t a b) (k : t.E b c) : Tbl.St t a c
def Tbl.Bl (t : Tbl) (a b : Nat) : Prop := a = b ∨ t.St a b
/-- c is the join of a and b. -/
def Tbl.Jn (t : Tbl) (a b c : Nat) : Prop := c < t.elems.length ∧ t.Bl a c ∧ t.Bl b c ∧ ∀ d, d < t.elems.length → t.Bl a d → t.Bl b d → t.Bl c d
def Tbl.wr (t : Tbl) (a : Nat) : Prop := t.wrong[a]? = some true
def Tbl.Lat (t : Tbl) : Prop :=
  (∀ a, a < t.elems.length → ¬ t.St a a) ∧ (∀ a, a < t.elems.length → t.Bl 0 a) ∧ (∀ a b, a < b → b < t.elems.length → ∃ c, t.Jn a b c) ∧
  ¬ t.wr 0 ∧ ∀ a b, a < t.elems.length → b < t.elems.length → t.wr a → t.Bl a b → t.wr b
/-! ### shapes -/
inductive Shp where
  | mk (kind : Int) (name : ByteArray) (kids : List Shp)
def Shp.kind : Shp → Int | .mk k _ _ => k
def Shp.name : Shp → ByteArray | .mk _ n _ => n
def Shp.kids : Shp → List Shp | .mk _ _ l => l
mutual
def Shp.levels : Shp → Nat
  | .mk _ _ l => levelsL l + 1
def levelsL : List Shp → Nat
  | [] => 0
  | s :: r => max s.levels (levelsL r)
end
/-- How many kids a kind of shapes has. -/
def kidsOf (k : Int) : Option Nat := if k = 1 ∨ k = 2 ∨ k = 3 ∨ k = 4 ∨ k = 5 then some 0 else if k = 6 then some 1 else if k = 7 then some 2 else none
mutual
def Shp.Ok : Shp → Prop
  | .mk k n l => kidsOf k = some l.length ∧ (k = 5 → IsTableName n) ∧ (k ≠ 5 → n.size = 0) ∧ ShpOkL l
def ShpOkL : List Shp → Prop
  | [] => True
  | s :: r => s.Ok ∧ ShpOkL r
end
theorem levelsL_le : ∀ {l : List Shp} {n : Nat}, levelsL l ≤ n ↔ ∀ s ∈ l, s.levels ≤ n
  | [], n => by simp [levelsL]
  | s :: r, n => by simp [levelsL, Nat.max_le, levelsL_le (l := r)]
/-! ### walks along steps -/
theorem Tbl.St.trans {t : Tbl} {a b c : Nat} (h : t.St a b) (k : t.St b c) : t.St a c := by
  induction k with
  | one k => exact .more h k
  | more _ k ih => exact .more ih k
/-- Whatever holds of all that one step comes to, and goes on along steps, holds of all. -/
theorem Tbl.St.ind {t : Tbl} {a : Nat} {P : Nat → Prop} (h1 : ∀ b, t.E a b → P b) (h2 : ∀ b c, P b → t.E b c → P c) {b : Nat} (h : t.St a b) : P b := by
  induction h with
  | one h => exact h1 _ h
  | more _ k ih => exact h2 _ _ ih k
theorem RowOk.length {n : Nat} {l : List Int} (h : RowOk n l) : l.length ≤ n := by
  have key : ∀ i (hi : i < l.length), (i : Int) ≤ l[i] := by
    intro i
    induction i with
    | zero => intro hi; exact (h.1 0 hi).1
    | succ i ih => intro hi; have := ih (by omega); have := h.2 i hi; omega
  cases e : l.length with
  | zero => omega
  | succ k =>
    have h1 := key k (by omega)
    have h2 := (h.1 k (by omega)).2
    omega
/-! ### how they lie in memory -/
/-- Rows of whole numbers. -/
def Rows (Z : Zone) (v : Value) (xss : List (List Int)) : Prop := ∃ us, Sl Z 1 v xss.length us ∧ ∀ i (h : i < xss.length), ∃ u, us[i]? = some u ∧ Sl Z 1 u xss[i].length (xss[i].map (Value.int .i64))
theorem Rows.mono {Z Z' : Zone} {v : Value} {xss : List (List Int)} (e : Ext Z Z') (h : Rows Z v xss) : Rows Z' v xss :=
  let ⟨us, h1, h2⟩ := h; ⟨us, h1.mono e, fun i hi => let ⟨u, k1, k2⟩ := h2 i hi; ⟨u, k1, k2.mono e⟩⟩
structure TbR (Z : Zone) (nm : ByteArray) (ve va vw : Value) (t : Tbl) : Prop where
  name : nm = t.name
  elems : Sl Z 1 ve t.elems.length (t.elems.map Value.string)
  above : Rows Z va t.above
  wrong : Sl Z 1 vw t.wrong.length (t.wrong.map Value.bool)
theorem TbR.mono {Z Z' : Zone} {nm : ByteArray} {ve va vw : Value} {t : Tbl} (e : Ext Z Z') (h : TbR Z nm ve va vw t) : TbR Z' nm ve va vw t :=
  ⟨h.name, h.elems.mono e, h.above.mono e, h.wrong.mono e⟩
/-- A table is small. -/
structure Tbl.Sm (t : Tbl) : Prop where
  name : t.name.size ≤ 1000000
  elems : t.elems.length ≤ 1000000
  each : ∀ s ∈ t.elems, s.size ≤ 1000000
  above : t.above.length ≤ 1000000
  rows : ∀ l ∈ t.above, l.length ≤ 1000000
  wrong : t.wrong.length ≤ 1000000
/-! ### the search along steps -/
structure Bfs (t : Tbl) (a : Nat) (been : List Bool) (todo : List Int) : Prop where
  len : been.length = t.elems.length
  s1 : ∀ b, been[b]? = some true → t.St a b
  s2 : ∀ c ∈ todo, ∃ k : Nat, c = k ∧ t.St a k
  s3 : ∀ b, t.E a b → been[b]? = some true ∨ (b : Int) ∈ todo
  s4 : ∀ b c, been[b]? = some true → t.E b c → been[c]? = some true ∨ (c : Int) ∈ todo
theorem Bfs.skip {t : Tbl} {a : Nat} {been : List Bool} {k : Nat} {todo : List Int} (h : Bfs t a been ((k : Int) :: todo)) (hk : been[k]? = some true) : Bfs t a been todo where
  len := h.len
  s1 := h.s1
  s2 := fun c hc => h.s2 c (List.mem_cons_of_mem _ hc)
  s3 := fun b hb => by
    rcases h.s3 b hb with q | q
    · exact .inl q
    · rcases List.mem_cons.1 q with q | q
      · obtain rfl : b = k := by omega
        exact .inl hk
      · exact .inr q
  s4 := fun b c hb hc => by
    rcases h.s4 b c hb hc with q | q
    · exact .inl q
    · rcases List.mem_cons.1 q with q | q
      · obtain rfl : c = k := by omega
        exact .inl hk
      · exact .inr q
theorem set_get {been : List Bool} {k b : Nat} (hk : k < been.length) : (been.set k true)[b]? = some true ↔ b = k ∨ been[b]? = some true := by
  rw [List.getElem?_set]
  by_cases e : k = b
  · subst e; simp [hk]
  · simp [e]; intro h; exact absurd h.symm e
theorem Bfs.done {t : Tbl} {a : Nat} {been : List Bool} (h : Bfs t a been []) (b : Nat) : been[b]? = some true ↔ t.St a b := by
  refine ⟨h.s1 b, fun hs => ?_⟩
  refine hs.ind (P := fun b => been[b]? = some true) (fun b hb => ?_) (fun b c hb hc => ?_)
  · rcases h.s3 b hb with q | q
    · exact q
    · cases q
  · rcases h.s4 b c hb hc with q | q
    · exact q
    · cases q
/-! ### a table whose steps are known -/
structure TabR (Z : Zone) (b : Nat) (t : Tbl) : Prop where
  ok : t.Ok
  sm : t.Sm
  rep : ∃ nm ve va vw vs us, Z b = some (.cells [.string nm, ve, va, vw, vs] true 0) ∧ TbR Z nm ve va vw t ∧ Sl Z 1 vs t.elems.length us ∧
    ∀ a, a < t.elems.length → ∃ (u : Value) (l : List Bool), us[a]? = some u ∧ Sl Z 1 u t.elems.length (l.map Value.bool) ∧ l.length = t.elems.length ∧ ∀ c : Nat, l[c]? = some true ↔ t.St a c
theorem TabR.mono {Z Z' : Zone} {b : Nat} {t : Tbl} (e : Ext Z Z') (h : TabR Z b t) : TabR Z' b t :=
  ⟨h.ok, h.sm, let ⟨nm, ve, va, vw, vs, us, h1, h2, h3, h4⟩ := h.rep; ⟨nm, ve, va, vw, vs, us, e _ _ h1, h2.mono e, h3.mono e, fun a ha => let ⟨u, l, k1, k2, k3⟩ := h4 a ha; ⟨u, l, k1, k2.mono e, k3⟩⟩⟩
/-- The elements of which something is so, ascending. -/
structure Whe (n : Nat) (p : Nat → Prop) (l : List Nat) : Prop where
  mem : ∀ a, a ∈ l ↔ a < n ∧ p a
  asc : l.Pairwise (· < ·)
theorem Whe.len {n : Nat} {p : Nat → Prop} {l : List Nat} (h : Whe n p l) : l.length ≤ n := by
  have hp := List.pairwise_iff_getElem.1 h.asc
  have key : ∀ i (hi : i < l.length), i ≤ l[i] := by
    intro i
    induction i with
    | zero => intro hi; omega
    | succ i ih => intro hi; have := ih (by omega); have := hp i (i + 1) (by omega) hi (by omega); omega
  cases e : l.length with
  | zero => omega
  | succ k =>
    have h1 := key k (by omega)
    have h2 := ((h.mem l[k]).1 (List.getElem_mem (by omega))).1
    omega
theorem Whe.nil {p : Nat → Prop} : Whe 0 p [] := ⟨fun a => by simp, .nil⟩
theorem Whe.snoc {j : Nat} {p : Nat → Prop} {l : List Nat} (h : Whe j p l) (hp : p j) : Whe (j + 1) p (l ++ [j]) := by
  refine ⟨fun a => ?_, ?_⟩
  · rw [List.mem_append, h.mem, List.mem_singleton]
    constructor
    · rintro (⟨h1, h2⟩ | rfl)
      · exact ⟨by omega, h2⟩
      · exact ⟨by omega, hp⟩
    · rintro ⟨h1, h2⟩
      by_cases e : a = j
      · exact .inr e
      · exact .inl ⟨by omega, h2⟩
  · rw [List.pairwise_append]
    exact ⟨h.asc, by simp, fun a ha b hb => by rw [List.mem_singleton] at hb; subst hb; exact ((h.mem a).1 ha).1⟩
theorem Whe.skip {j : Nat} {p : Nat → Prop} {l : List Nat} (h : Whe j p l) (hp : ¬ p j) : Whe (j + 1) p l := by
  refine ⟨fun a => ?_, h.asc⟩
  rw [h.mem]
  constructor
  · rintro ⟨h1, h2⟩; exact ⟨by omega, h2⟩
  · rintro ⟨h1, h2⟩
    by_cases e : a = j
    · subst e; exact absurd h2 hp
    · exact ⟨by omega, h2⟩
/-! ### shapes in memory -/
mutual
def ShR (Z : Zone) : Shp → List Value → Prop
  | .mk k n l, cs => ∃ vk us, cs = [.int .u8 k, .string n, vk] ∧ Sl Z 3 vk l.length us ∧ ShRL Z l us
def ShRL (Z : Zone) : List Shp → List Value → Prop
  | [], us => us = []
  | s :: r, us => ∃ c rest, us = c ++ rest ∧ ShR Z s c ∧ ShRL Z r rest
end
mutual
theorem ShR.mono {Z Z' : Zone} (e : Ext Z Z') : ∀ {s : Shp} {cs : List Value}, ShR Z s cs → ShR Z' s cs
  | .mk k n l, cs, h => by
    simp only [ShR] at h ⊢
    obtain ⟨vk, us, h1, h2, h3⟩ := h
    exact ⟨vk, us, h1, h2.mono e, ShRL.mono e h3⟩
theorem ShRL.mono {Z Z' : Zone} (e : Ext Z Z') : ∀ {l : List Shp} {us : List Value}, ShRL Z l us → ShRL Z' l us
  | [], us, h => by simp only [ShRL] at h ⊢; exact h
  | s :: r, us, h => by
    simp only [ShRL] at h ⊢
    obtain ⟨c, rest, h1, h2, h3⟩ := h
    exact ⟨c, rest, h1, ShR.mono e h2, ShRL.mono e h3⟩
end
theorem ShR.form {Z : Zone} {s : Shp} {cs : List Value} (h : ShR Z s cs) : ∃ a c us, cs = [.int .u8 s.kind, .string s.name, .slice a s.kids.length c] ∧ Sl Z 3 (.slice a s.kids.length c) s.kids.length us ∧ ShRL Z s.kids us := by
  cases s with
  | mk k n l =>
    simp only [ShR] at h
    obtain ⟨vk, us, h1, h2, h3⟩ := h
    have := h2
    rcases this with ⟨rfl, h4, rfl⟩ | ⟨b, off, c, xs, wr, g, rfl, _⟩
    · exact ⟨none, 0, [], by rw [h1]; simp only [Shp.kind, Shp.name, Shp.kids, h4], by simp only [Shp.kids, h4]; exact Sl.nil, h3⟩
    · exact ⟨_, _, us, h1, h2, h3⟩
theorem getCells_app {c rest : List Value} : getCells (c ++ rest) 0 c.length = some c := by unfold getCells; simp
theorem ShRL.get {Z : Zone} : ∀ {l : List Shp} {us : List Value}, ShRL Z l us → ∀ i (h : i < l.length), ∃ k n a m c, getCells us (i * 3) 3 = some [.int .u8 k, .string n, .slice a m c] ∧ ShR Z l[i] [.int .u8 k, .string n, .slice a m c]
  | [], us, h, i, hi => by simp at hi
  | s :: r, us, h, 0, hi => by
    simp only [ShRL] at h
    obtain ⟨c, rest, rfl, h2, h3⟩ := h
    obtain ⟨a, cc, us', rfl, _⟩ := h2.form
    exact ⟨_, _, _, _, _, getCells_app, h2⟩
  | s :: r, us, h, i + 1, hi => by
    simp only [ShRL] at h
    obtain ⟨c, rest, rfl, h2, h3⟩ := h
    obtain ⟨k, n, a, m, cc, g1, g2⟩ := ShRL.get h3 i (by simpa using hi)
    obtain ⟨a', c', us', rfl, _⟩ := h2.form
    refine ⟨k, n, a, m, cc, ?_, g2⟩
    unfold getCells at g1 ⊢
    simp only [List.length_append, List.length_cons, List.length_nil]
    split at g1
    · rw [if_pos (by omega)]
      have e : (i + 1) * 3 = 3 + i * 3 := by omega
      rw [e, ← List.drop_drop]
      exact g1
    · cases g1
/-- A shape is small, down to its last kid. -/
def Shp.Sm : Nat → Shp → Prop
  | 0, _ => True
  | d + 1, s => s.name.size ≤ 1000000 ∧ s.kids.length ≤ 1000000 ∧ ∀ k ∈ s.kids, Shp.Sm d k
/-- Tables in memory. -/
def TbsR (Z : Zone) (v : Value) (ts : List Tbl) : Prop := ∃ us, Sl Z 4 v ts.length us ∧ ∀ i (h : i < ts.length), ∃ nm a1 m1 c1 a2 m2 c2 a3 m3 c3, getCells us (i * 4) 4 = some [.string nm, .slice a1 m1 c1, .slice a2 m2 c2, .slice a3 m3 c3] ∧ TbR Z nm (.slice a1 m1 c1) (.slice a2 m2 c2) (.slice a3 m3 c3) ts[i]
theorem TbsR.mono {Z Z' : Zone} {v : Value} {ts : List Tbl} (e : Ext Z Z') (h : TbsR Z v ts) : TbsR Z' v ts :=
  let ⟨us, h1, h2⟩ := h; ⟨us, h1.mono e, fun i hi => let ⟨nm, a1, m1, c1, a2, m2, c2, a3, m3, c3, k1, k2⟩ := h2 i hi; ⟨nm, a1, m1, c1, a2, m2, c2, a3, m3, c3, k1, k2.mono e⟩⟩
theorem TbsR.form {Z : Zone} {v : Value} {ts : List Tbl} (h : TbsR Z v ts) : ∃ a c, v = .slice a ts.length c := by
  obtain ⟨us, hs, _⟩ := h
  rcases hs with ⟨rfl, h0, _⟩ | ⟨b, off, c, xs, wr, g, rfl, _⟩
  · exact ⟨none, 0, by rw [h0]⟩
  · exact ⟨_, _, rfl⟩
theorem TbsR.take {Z : Zone} {v' : Value} {ts : List Tbl} {us : List Value} {i : Nat} (hi : i ≤ ts.length)
    (hr : ∀ i (h : i < ts.length), ∃ nm a1 m1 c1 a2 m2 c2 a3 m3 c3, getCells us (i * 4) 4 = some [.string nm, .slice a1 m1 c1, .slice a2 m2 c2, .slice a3 m3 c3] ∧ TbR Z nm (.slice a1 m1 c1) (.slice a2 m2 c2) (.slice a3 m3 c3) ts[i])
    (h : Sl Z 4 v' (i - 0) ((us.drop (0 * 4)).take ((i - 0) * 4))) : TbsR Z v' (ts.take i) := by
  have e : (ts.take i).length = i := by rw [List.length_take]; omega
  refine ⟨_, by rw [e]; simpa using h, fun j hj => ?_⟩
  rw [e] at hj
  obtain ⟨nm, a1, m1, c1, a2, m2, c2, a3, m3, c3, g1, g2⟩ := hr j (by omega)
  refine ⟨nm, a1, m1, c1, a2, m2, c2, a3, m3, c3, ?_, by rw [List.getElem_take]; exact g2⟩
  obtain ⟨k1, k2, _⟩ := getC_some g1
  unfold getCells
  have hl := h.length
  simp only [Nat.zero_mul, List.drop_zero, Nat.sub_zero] at hl
  have hji : j * 4 + 4 ≤ i * 4 := by omega
  rw [if_pos (by rw [hl]; exact hji), k2]
  rw [List.drop_take, List.take_take]
  congr 1
  congr 1
  omega
/-! ### the reference's search along steps -/
def Clo (t : Tbl) (seen : List Bool) (b : Nat) : Prop := ∀ c, t.E b c → seen[c]? = some true
structure Rb (t : Tbl) (a : Nat) (seen : List Bool) (todo : List Int) (x : Option Nat) : Prop where
  len : seen.length = t.elems.length
  s1 : ∀ b : Nat, seen[b]? = some true → t.St a b
  s2 : ∀ c ∈ todo, ∃ k : Nat, c = k ∧ (k = a ∨ t.St a k)
  s3 : (a : Int) ∈ todo ∨ x = some a ∨ Clo t seen a
  s4 : ∀ b : Nat, seen[b]? = some true → (b : Int) ∈ todo ∨ x = some b ∨ Clo t seen b
theorem Clo.mono {t : Tbl} {seen : List Bool} {b k : Nat} (hk : k < seen.length) (h : Clo t seen b) : Clo t (seen.set k true) b := fun c hc => (set_get hk).2 (.inr (h c hc))
theorem Rb.push {t : Tbl} {a x k : Nat} {seen : List Bool} {todo : List Int} (h : Rb t a seen todo (some x)) (hk : k < seen.length) (hst : t.St a k) : Rb t a (seen.set k true) (todo ++ [(k : Int)]) (some x) where
  len := by simp [h.len]
  s1 := fun b hb => by
    rcases (set_get hk).1 hb with rfl | hb
    · exact hst
    · exact h.s1 b hb
  s2 := fun c hc => by
    rcases List.mem_append.1 hc with hc | hc
    · exact h.s2 c hc
    · exact ⟨k, by simpa using hc, .inr hst⟩
  s3 := by
    rcases h.s3 with q | q | q
    · exact .inl (List.mem_append.2 (.inl q))
    · exact .inr (.inl q)
    · exact .inr (.inr (q.mono hk))
  s4 := fun b hb => by
    rcases (set_get hk).1 hb with rfl | hb
    · exact .inl (List.mem_append.2 (.inr (by simp)))
    · rcases h.s4 b hb with q | q | q
      · exact .inl (List.mem_append.2 (.inl q))
      · exact .inr (.inl q)
      · exact .inr (.inr (q.mono hk))
theorem Rb.done {t : Tbl} {a : Nat} {seen : List Bool} (h : Rb t a seen [] none) (b : Nat) : seen[b]? = some true ↔ t.St a b := by
  refine ⟨h.s1 b, fun hs => ?_⟩
  have ca : Clo t seen a := by
    rcases h.s3 with q | q | q
    · cases q
    · cases q
    · exact q
  refine hs.ind (P := fun b => seen[b]? = some true) (fun b hb => ca b hb) (fun b c hb hc => ?_)
  rcases h.s4 b hb with q | q | q
  · cases q
  · cases q
  · exact q c hc
/-- For each two elements, whether the first one is below the second one. -/
def RelR (Z : Zone) (v : Value) (t : Tbl) : Prop := ∃ us, Sl Z 1 v t.elems.length us ∧ ∀ a, a < t.elems.length → ∃ (u : Value) (l : List Bool), us[a]? = some u ∧ Sl Z 1 u t.elems.length (l.map Value.bool) ∧ l.length = t.elems.length ∧ ∀ c : Nat, c < t.elems.length → (l[c]? = some true ↔ t.Bl a c)
theorem RelR.mono {Z Z' : Zone} {v : Value} {t : Tbl} (e : Ext Z Z') (h : RelR Z v t) : RelR Z' v t :=
  let ⟨us, h1, h2⟩ := h; ⟨us, h1.mono e, fun a ha => let ⟨u, l, k1, k2, k3⟩ := h2 a ha; ⟨u, l, k1, k2.mono e, k3⟩⟩
/-! ### what the statements look at -/
def Shp.Thin : Nat → Shp → Prop
  | 0, _ => False
  | d + 1, s => s.kids.length ≤ 4 ∧ s.name.size ≤ 30 ∧ ∀ k ∈ s.kids, Shp.Thin d k
theorem Shp.Thin.sm : ∀ {d : Nat} {s : Shp}, Shp.Thin d s → Shp.Sm d s ∧ s.levels ≤ d
  | 0, s, h => h.elim
  | d + 1, s, h => by
    obtain ⟨h1, h2, h3⟩ := h
    refine ⟨⟨by omega, by omega, fun k hk => (Shp.Thin.sm (h3 k hk)).1⟩, ?_⟩
    cases s with
    | mk k n l =>
      simp only [Shp.levels]
      have := levelsL_le.2 fun k hk => (Shp.Thin.sm (h3 k hk)).2
      simp only [Shp.kids] at this
      omega
structure Tbl.Th (t : Tbl) : Prop where
  elems : t.elems.length ≤ 20
  above : t.above.length ≤ 20
  wrong : t.wrong.length ≤ 20
  name : t.name.size ≤ 30
  each : ∀ i (h : i < t.elems.length), t.elems[i].size ≤ 30
  rows : ∀ i (h : i < t.above.length), t.above[i].length ≤ 20
theorem Tbl.Th.sm {t : Tbl} (h : t.Th) : t.Sm where
  name := by have := h.name; omega
  elems := by have := h.elems; omega
  each := fun s hs => by obtain ⟨i, hi, rfl⟩ := List.getElem_of_mem hs; have := h.each i hi; omega
  above := by have := h.above; omega
  rows := fun s hs => by obtain ⟨i, hi, rfl⟩ := List.getElem_of_mem hs; have := h.rows i hi; omega
  wrong := by have := h.wrong; omega
abbrev Lat := List Tbl × Shp
structure Lat.Th (l : Lat) : Prop where
  few : ¬ (4 < l.1.length ∧ l.1.length ≤ 8) ∧ l.1.length ≤ 10
  shape : Shp.Thin 6 l.2
  tables : ∀ i (h : i < l.1.length), (l.1[i]).Th
/-- A lattice in memory. -/
def LatR (Z : Zone) (cs : List Value) (l : Lat) : Prop := ∃ vt cs', cs = vt :: cs' ∧ TbsR Z vt l.1 ∧ ShR Z l.2 cs'
theorem LatR.mono {Z Z' : Zone} {cs : List Value} {l : Lat} (e : Ext Z Z') (h : LatR Z cs l) : LatR Z' cs l := let ⟨vt, cs', h1, h2, h3⟩ := h; ⟨vt, cs', h1, h2.mono e, h3.mono e⟩
theorem LatR.form {Z : Zone} {cs : List Value} {l : Lat} (h : LatR Z cs l) : ∃ a1 c1 a2 c2, cs = [.slice a1 l.1.length c1, .int .u8 l.2.kind, .string l.2.name, .slice a2 l.2.kids.length c2] ∧ TbsR Z (.slice a1 l.1.length c1) l.1 ∧ ShR Z l.2 [.int .u8 l.2.kind, .string l.2.name, .slice a2 l.2.kids.length c2] := by
  obtain ⟨vt, cs', rfl, h2, h3⟩ := h
  obtain ⟨a1, c1, rfl⟩ := h2.form
  obtain ⟨a2, c2, us, rfl, _⟩ := h3.form
  exact ⟨a1, c1, a2, c2, rfl, h2, h3⟩
def LatsR (Z : Zone) (v : Value) (ls : List Lat) : Prop := ∃ us, Sl Z 4 v ls.length us ∧ ∀ i (h : i < ls.length), ∃ cs, getCells us (i * 4) 4 = some cs ∧ LatR Z cs ls[i]
theorem LatsR.mono {Z Z' : Zone} {v : Value} {ls : List Lat} (e : Ext Z Z') (h : LatsR Z v ls) : LatsR Z' v ls := let ⟨us, h1, h2⟩ := h; ⟨us, h1.mono e, fun i hi => let ⟨cs, k1, k2⟩ := h2 i hi; ⟨cs, k1, k2.mono e⟩⟩
theorem LatsR.form {Z : Zone} {v : Value} {ts : List Lat} (h : LatsR Z v ts) : ∃ a c, v = .slice a ts.length c := by
  obtain ⟨us, hs, _⟩ := h
  rcases hs with ⟨rfl, h0, _⟩ | ⟨b, off, c, xs, wr, g, rfl, _⟩
  · exact ⟨none, 0, by rw [h0]⟩
  · exact ⟨_, _, rfl⟩
/-! ### the error of lattices -/
/-! ### copies -/
theorem ShRL.snoc {Z : Zone} {s : Shp} {c : List Value} (h : ShR Z s c) : ∀ {l : List Shp} {us : List Value}, ShRL Z l us → ShRL Z (l ++ [s]) (us ++ c)
  | [], us, k => by simp only [ShRL] at k; subst k; simp only [List.nil_append, ShRL]; exact ⟨c, [], by simp, h, rfl⟩
  | x :: r, us, k => by
    simp only [ShRL] at k
    obtain ⟨c0, rest, rfl, k2, k3⟩ := k
    simp only [List.cons_append, ShRL]
    exact ⟨c0, rest ++ c, by simp, k2, ShRL.snoc h k3⟩
inductive El where
  | mk (kind n : Int) (keys : List Int) (kids : List El)
def El.kind : El → Int | .mk k _ _ _ => k
def El.n : El → Int | .mk _ n _ _ => n
def El.keys : El → List Int | .mk _ _ l _ => l
def El.kids : El → List El | .mk _ _ _ l => l
mutual
def El.levels : El → Nat
  | .mk _ _ _ l => elLevelsL l + 1
def elLevelsL : List El → Nat
  | [] => 0
  | s :: r => max s.levels (elLevelsL r)
end
/-- What lies in memory: no row is larger than memory, each number is one of 64 bits. -/
def El.Sm : Nat → El → Prop
  | 0, _ => True
  | d + 1, s => s.keys.length ≤ 17592186044416 ∧ s.kids.length ≤ 2199023255552 ∧ (-9223372036854775808 ≤ s.n ∧ s.n ≤ 9223372036854775807) ∧ (0 ≤ s.kind ∧ s.kind ≤ 255) ∧ (∀ k ∈ s.keys, -9223372036854775808 ≤ k ∧ k ≤ 9223372036854775807) ∧ ∀ k ∈ s.kids, El.Sm d k
mutual
def ElR (Z : Zone) : El → List Value → Prop
  | .mk k n ks l, cs => ∃ vk vl us, cs = [.int .u8 k, .int .i64 n, vk, vl] ∧ Sl Z 1 vk ks.length (ks.map (Value.int .i64)) ∧ Sl Z 4 vl l.length us ∧ ElRL Z l us
def ElRL (Z : Zone) : List El → List Value → Prop
  | [], us => us = []
  | s :: r, us => ∃ c rest, us = c ++ rest ∧ ElR Z s c ∧ ElRL Z r rest
end
mutual
theorem ElR.mono {Z Z' : Zone} (e : Ext Z Z') : ∀ {s : El} {cs : List Value}, ElR Z s cs → ElR Z' s cs
  | .mk k n ks l, cs, h => by
    simp only [ElR] at h ⊢
    obtain ⟨vk, vl, us, h1, h0, h2, h3⟩ := h
    exact ⟨vk, vl, us, h1, h0.mono e, h2.mono e, ElRL.mono e h3⟩
theorem ElRL.mono {Z Z' : Zone} (e : Ext Z Z') : ∀ {l : List El} {us : List Value}, ElRL Z l us → ElRL Z' l us
  | [], us, h => by simp only [ElRL] at h ⊢; exact h
  | s :: r, us, h => by
    simp only [ElRL] at h ⊢
    obtain ⟨c, rest, h1, h2, h3⟩ := h
    exact ⟨c, rest, h1, ElR.mono e h2, ElRL.mono e h3⟩
end
theorem ElR.form {Z : Zone} {s : El} {cs : List Value} (h : ElR Z s cs) : ∃ a1 c1 a2 c2 us, cs = [.int .u8 s.kind, .int .i64 s.n, .slice a1 s.keys.length c1, .slice a2 s.kids.length c2] ∧
    Sl Z 1 (.slice a1 s.keys.length c1) s.keys.length (s.keys.map (Value.int .i64)) ∧ Sl Z 4 (.slice a2 s.kids.length c2) s.kids.length us ∧ ElRL Z s.kids us := by
  cases s with
  | mk k n ks l =>
    simp only [ElR] at h
    obtain ⟨vk, vl, us, rfl, h0, h2, h3⟩ := h
    obtain ⟨a1, c1, rfl⟩ := h0.form
    obtain ⟨a2, c2, rfl⟩ := h2.form
    exact ⟨a1, c1, a2, c2, us, rfl, h0, h2, h3⟩
theorem ElR.of {Z : Zone} {s : El} {vk vl : Value} {us : List Value} (h0 : Sl Z 1 vk s.keys.length (s.keys.map (Value.int .i64))) (h : Sl Z 4 vl s.kids.length us) (k : ElRL Z s.kids us) : ElR Z s [.int .u8 s.kind, .int .i64 s.n, vk, vl] := by
  cases s; simp only [ElR]; exact ⟨vk, vl, us, rfl, h0, h, k⟩
theorem ElRL.snoc {Z : Zone} {s : El} {c : List Value} (h : ElR Z s c) : ∀ {l : List El} {us : List Value}, ElRL Z l us → ElRL Z (l ++ [s]) (us ++ c)
  | [], us, k => by simp only [ElRL] at k; subst k; simp only [List.nil_append, ElRL]; exact ⟨c, [], by simp, h, rfl⟩
  | x :: r, us, k => by
    simp only [ElRL] at k
    obtain ⟨c0, rest, rfl, k2, k3⟩ := k
    simp only [List.cons_append, ElRL]
    exact ⟨c0, rest ++ c, by simp, k2, ElRL.snoc h k3⟩
theorem ElRL.get {Z : Zone} : ∀ {l : List El} {us : List Value}, ElRL Z l us → ∀ i (h : i < l.length), ∃ k n a1 m1 c1 a2 m2 c2, getCells us (i * 4) 4 = some [.int .u8 k, .int .i64 n, .slice a1 m1 c1, .slice a2 m2 c2] ∧ ElR Z l[i] [.int .u8 k, .int .i64 n, .slice a1 m1 c1, .slice a2 m2 c2]
  | [], us, h, i, hi => by simp at hi
  | s :: r, us, h, 0, hi => by
    simp only [ElRL] at h
    obtain ⟨c, rest, rfl, h2, h3⟩ := h
    obtain ⟨a1, c1, a2, c2, us', rfl, _⟩ := h2.form
    exact ⟨_, _, _, _, _, _, _, _, getCells_app, h2⟩
  | s :: r, us, h, i + 1, hi => by
    simp only [ElRL] at h
    obtain ⟨c, rest, rfl, h2, h3⟩ := h
    obtain ⟨k, n, a1, m1, c1, a2, m2, c2, g1, g2⟩ := ElRL.get h3 i (by simpa using hi)
    obtain ⟨b1, d1, b2, d2, us', rfl, _⟩ := h2.form
    refine ⟨k, n, a1, m1, c1, a2, m2, c2, ?_, g2⟩
    unfold getCells at g1 ⊢
    simp only [List.length_append, List.length_cons, List.length_nil]
    split at g1
    · rw [if_pos (by omega)]
      have e : (i + 1) * 4 = 4 + i * 4 := by omega
      rw [e, ← List.drop_drop]
      exact g1
    · cases g1
/-- Elements in memory. -/
def ElsR (Z : Zone) (v : Value) (l : List El) : Prop := ∃ us, Sl Z 4 v l.length us ∧ ElRL Z l us
theorem ElsR.mono {Z Z' : Zone} {v : Value} {l : List El} (e : Ext Z Z') (h : ElsR Z v l) : ElsR Z' v l := let ⟨us, h1, h2⟩ := h; ⟨us, h1.mono e, h2.mono e⟩
theorem ElsR.form {Z : Zone} {v : Value} {l : List El} (h : ElsR Z v l) : ∃ a c, v = .slice a l.length c := let ⟨_, h1, _⟩ := h; h1.form
/-! ### which elements are of a shape -/
def El.Bot (e : El) : Prop := e.kind = 0 ∧ e.n = 0 ∧ e.keys.length = 0 ∧ e.kids.length = 0
instance (e : El) : Decidable e.Bot := by unfold El.Bot; infer_instance
def NumOk (a : Int) : Prop := -1000000000 ≤ a ∧ a ≤ 1000000000
instance (a : Int) : Decidable (NumOk a) := by unfold NumOk; infer_instance
/-- The key at a place is a number, and greater than the one before it. -/
def KeyAt (l : List Int) (i : Nat) : Prop := ∃ a, l[i]? = some a ∧ NumOk a ∧ ∀ j b, i = j + 1 → l[j]? = some b → b < a
theorem KeyAt.zero {l : List Int} (h : 0 < l.length) : KeyAt l 0 ↔ NumOk l[0] := by
  constructor
  · rintro ⟨a, h1, h2, _⟩
    rw [List.getElem?_eq_getElem h] at h1
    cases h1; exact h2
  · exact fun k => ⟨_, List.getElem?_eq_getElem h, k, fun j b e => by omega⟩
/-- The first table of a name. -/
def Tof (ts : List Tbl) (n : ByteArray) (t : Tbl) : Prop := ∃ i, ∃ h : i < ts.length, ts[i] = t ∧ t.name = n ∧ ∀ j (hj : j < i), ts[j].name ≠ n
theorem Tof.uniq {ts : List Tbl} {n : ByteArray} {t u : Tbl} (h : Tof ts n t) (k : Tof ts n u) : t = u := by
  obtain ⟨i, hi, e1, n1, m1⟩ := h
  obtain ⟨j, hj, e2, n2, m2⟩ := k
  have : i = j := by
    rcases Nat.lt_trichotomy i j with q | q | q
    · exact absurd (by rw [e1]; exact n1) (m2 i q)
    · exact q
    · exact absurd (by rw [e2]; exact n2) (m1 j q)
  subst this
  exact e1.symm.trans e2
def El.Bare (e : El) : Prop := e.keys.length = 0 ∧ e.kids.length = 0
instance (e : El) : Decidable e.Bare := by unfold El.Bare; infer_instance
/-! ### rows of keys -/
/-! ### joins in tables -/
theorem Tbl.Bl.refl {t : Tbl} (a : Nat) : t.Bl a a := .inl rfl
theorem Tbl.Bl.trans {t : Tbl} {a b c : Nat} (h : t.Bl a b) (k : t.Bl b c) : t.Bl a c := by
  rcases h with rfl | h
  · exact k
  · rcases k with rfl | k
    · exact .inr h
    · exact .inr (h.trans k)
theorem Tbl.Lat.anti {t : Tbl} (L : t.Lat) {a b : Nat} (ha : a < t.elems.length) (h : t.Bl a b) (k : t.Bl b a) : a = b := by
  rcases h with h | h
  · exact h
  · rcases k with k | k
    · exact k.symm
    · exact absurd (h.trans k) (L.1 a ha)
theorem Tbl.Jn.comm {t : Tbl} {a b c : Nat} (h : t.Jn a b c) : t.Jn b a c := ⟨h.1, h.2.2.1, h.2.1, fun d k1 k2 k3 => h.2.2.2 d k1 k3 k2⟩
theorem Tbl.Jn.uniq {t : Tbl} (L : t.Lat) {a b c d : Nat} (h : t.Jn a b c) (k : t.Jn a b d) : c = d :=
  L.anti h.1 (h.2.2.2 d k.1 k.2.1 k.2.2.1) (k.2.2.2 c h.1 h.2.1 h.2.2.1)
theorem Tbl.Lat.ex {t : Tbl} (L : t.Lat) {a b : Nat} (ha : a < t.elems.length) (hb : b < t.elems.length) : ∃ c, t.Jn a b c := by
  rcases Nat.lt_trichotomy a b with q | q | q
  · exact L.2.2.1 a b q hb
  · subst q; exact ⟨a, ha, .refl a, .refl a, fun d _ k _ => k⟩
  · obtain ⟨c, h⟩ := L.2.2.1 b a q ha; exact ⟨c, h.comm⟩
open Classical in
/-- The join of two elements of a table; 0 if there is none. -/
noncomputable def Tbl.jn (t : Tbl) (a b : Nat) : Nat := if h : ∃ c, t.Jn a b c then Classical.choose h else 0
theorem Tbl.Lat.jn {t : Tbl} (L : t.Lat) {a b : Nat} (ha : a < t.elems.length) (hb : b < t.elems.length) : t.Jn a b (t.jn a b) := by
  unfold Tbl.jn
  rw [dif_pos (L.ex ha hb)]
  exact Classical.choose_spec (L.ex ha hb)
theorem Tbl.Jn.eq {t : Tbl} (L : t.Lat) {a b c : Nat} (ha : a < t.elems.length) (hb : b < t.elems.length) (h : t.Jn a b c) : t.jn a b = c := (L.jn ha hb).uniq L h
open Classical in
/-- The table of a name. -/
noncomputable def tabOf (ts : List Tbl) (n : ByteArray) : Tbl := if h : ∃ t, Tof ts n t then Classical.choose h else ⟨n, [], [], []⟩
theorem Tof.eq {ts : List Tbl} {n : ByteArray} {t : Tbl} (h : Tof ts n t) : tabOf ts n = t := by
  unfold tabOf
  rw [dif_pos ⟨t, h⟩]
  exact (Classical.choose_spec (⟨t, h⟩ : ∃ t, Tof ts n t)).uniq h
theorem Tof.mem {ts : List Tbl} {n : ByteArray} {t : Tbl} (h : Tof ts n t) : t ∈ ts := by
  obtain ⟨i, hi, rfl, _⟩ := h; exact List.getElem_mem hi
end Go.Proofs.J
namespace Go.Proofs.J
open Go Go.Ev
set_option linter.unusedVariables false
set_option linter.unusedSimpArgs false
open Classical in
noncomputable instance : DecidableEq El := fun a b => Classical.propDecidable _
section inv
variable {ts : List Tbl} {d : Nat} {s : Shp} {e : El}
end inv
section eqs
variable {ts : List Tbl} {d : Nat} {s : Shp} {a b : El}
end eqs
open Classical in
noncomputable def once (a b : El) : El := if a.kind = 2 ∧ b.kind = 2 ∧ a.n = b.n then a else .mk 3 0 [] []
end Go.Proofs.J
namespace Go.Proofs.J
open Go Go.Ev
set_option linter.unusedVariables false
set_option linter.unusedSimpArgs false
/-- A row without what stands beside its like. -/
def cpt : List Int → List Int
  | [] => []
  | [x] => [x]
  | x :: y :: r => if x = y then cpt (y :: r) else x :: cpt (y :: r)
open Go Go.Ev Go.Sort
/-- The cells of an array of numbers. -/
abbrev ic (d : Array Int) : List Value := d.toList.map (Value.int .i64)
theorem ic_get {d : Array Int} {i : Nat} (h : i < d.size) : getCells (ic d) (i * 1) 1 = some [.int .i64 d[i]!] := by
  unfold getCells
  rw [if_pos (by simp; omega), Nat.mul_one, List.drop_eq_getElem_cons (by simpa using h)]
  simp [getElem!_pos d i h]
theorem ic_set {d : Array Int} {i : Nat} {x : Int} (h : i < d.size) : setCells (ic d) (i * 1) [.int .i64 x] = some (ic (d.setIfInBounds i x)) := by
  unfold setCells
  rw [if_pos (by simp; omega), Nat.mul_one]
  congr 1
  simp only [ic, Array.toList_setIfInBounds, List.map_set, List.length_cons, List.length_nil]
  rw [List.set_eq_take_append_cons_drop, if_pos (by simpa using h)]
  simp
theorem ok_ic (d : Array Int) : okCells (ic d) = true := by
  simp only [okCells, ic, List.all_map, List.all_eq_true]
  intro x _; rfl
theorem swp_size {d : Array Int} {i j : Nat} : (swp d i j).size = d.size := by simp [swp]
theorem set_size {d : Array Int} {i : Nat} {x : Int} : (d.setIfInBounds i x).size = d.size := by simp
theorem insInner_size {a : Nat} : ∀ {j : Nat} {d : Array Int}, (insInner ltInt a j d).size = d.size
  | 0, d => rfl
  | j + 1, d => by
    rw [insInner]
    split
    · rw [insInner_size, swp_size]
    · rfl
theorem fm_len {α : Type} {f : α → List Value} {k : Nat} (hk : ∀ x, (f x).length = k) : ∀ (l : List α), (l.flatMap f).length = l.length * k
  | [] => by simp
  | x :: l => by rw [List.flatMap_cons, List.length_append, hk, fm_len hk l, List.length_cons, Nat.add_mul]; omega
theorem fm_drop {α : Type} {f : α → List Value} {k : Nat} (hk : ∀ x, (f x).length = k) : ∀ (l : List α) (j : Nat), (l.flatMap f).drop (j * k) = (l.drop j).flatMap f
  | l, 0 => by simp
  | [], j + 1 => by simp
  | x :: l, j + 1 => by
    rw [List.flatMap_cons, List.drop_succ_cons, ← fm_drop hk l j, Nat.add_mul, Nat.one_mul, Nat.add_comm, ← List.drop_drop]
    congr 1
    rw [List.drop_append_of_le_length (by rw [hk]; exact Nat.le_refl _), ← hk x, List.drop_length, List.nil_append]
theorem fm_get {α : Type} {f : α → List Value} {k : Nat} (hk : ∀ x, (f x).length = k) {l : List α} {j : Nat} (h : j < l.length) : getCells (l.flatMap f) (j * k) k = some (f l[j]) := by
  have h1 := fm_len hk l
  have h2 : (j + 1) * k ≤ l.length * k := Nat.mul_le_mul_right _ h
  rw [Nat.add_mul, Nat.one_mul] at h2
  unfold getCells
  rw [if_pos (by omega), fm_drop hk, List.drop_eq_getElem_cons h, List.flatMap_cons, List.take_append_of_le_length (by rw [hk]; exact Nat.le_refl _), ← hk l[j], List.take_length]
theorem fm_ok {α : Type} {f : α → List Value} (hf : ∀ x, okCells (f x) = true) (l : List α) : okCells (l.flatMap f) = true := by
  unfold okCells at *
  rw [List.all_eq_true]
  intro v hv
  obtain ⟨x, _, hx⟩ := List.mem_flatMap.1 hv
  exact List.all_eq_true.1 (hf x) v hx
/-! ### deques -/
structure Act where
  push : Bool
  n : Int
structure Dq where
  size : Int
  room : Int
  fence : Bool
  owner : List Act
  thieves : List Int
abbrev actC (a : Act) : List Value := [.bool a.push, .int .i64 a.n]
def Item (n : Int) : Prop := 1 ≤ n ∧ n ≤ 1000
def pushedOf : List Act → List Int
  | [] => []
  | a :: l => if a.push = true then a.n :: pushedOf l else pushedOf l
theorem pushedOf_append : ∀ (l m : List Act), pushedOf (l ++ m) = pushedOf l ++ pushedOf m
  | [], m => rfl
  | a :: l, m => by
    rw [List.cons_append, pushedOf, pushedOf, pushedOf_append l m]
    split <;> rfl
theorem pushedOf_take {l : List Act} {j : Nat} (h : j < l.length) : pushedOf (l.take (j + 1)) = if l[j].push = true then pushedOf (l.take j) ++ [l[j].n] else pushedOf (l.take j) := by
  rw [List.take_succ_eq_append_getElem h, pushedOf_append]
  simp only [pushedOf]
  split <;> simp
theorem pushedOf_len : ∀ (l : List Act), (pushedOf l).length ≤ l.length
  | [] => Nat.le_refl _
  | a :: l => by have := pushedOf_len l; rw [pushedOf]; split <;> simp <;> omega
theorem mem_pushed : ∀ {l : List Act} {x : Int}, x ∈ pushedOf l ↔ ∃ a ∈ l, a.push = true ∧ a.n = x
  | [], x => by simp [pushedOf]
  | a :: l, x => by
    rw [pushedOf]
    split
    · rename_i h
      rw [List.mem_cons, mem_pushed (l := l)]
      constructor
      · rintro (rfl | ⟨b, hb, h1, h2⟩)
        · exact ⟨a, by simp, h, rfl⟩
        · exact ⟨b, by simp [hb], h1, h2⟩
      · rintro ⟨b, hb, h1, h2⟩
        rcases List.mem_cons.1 hb with rfl | hb
        · exact .inl h2.symm
        · exact .inr ⟨b, hb, h1, h2⟩
    · rename_i h
      rw [mem_pushed (l := l)]
      constructor
      · rintro ⟨b, hb, h1, h2⟩
        exact ⟨b, by simp [hb], h1, h2⟩
      · rintro ⟨b, hb, h1, h2⟩
        rcases List.mem_cons.1 hb with rfl | hb
        · exact absurd h1 h
        · exact ⟨b, hb, h1, h2⟩
def Dq.Lim (d : Dq) : Prop := d.owner.length ≤ 8 ∧ d.thieves.length ≤ 3 ∧ ∀ n ∈ d.thieves, n ≤ 4
def Dq.Rng (d : Dq) : Prop := (1 ≤ d.size ∧ d.size ≤ 4) ∧ (1 ≤ d.room ∧ d.room ≤ 8) ∧ (∀ n ∈ pushedOf d.owner, Item n) ∧ ∀ n ∈ d.thieves, 0 ≤ n
def Dq.Frm (d : Dq) : Prop := ∀ a ∈ d.owner, a.push = true ∨ a.n = 0
def Dq.Onc (d : Dq) : Prop := (pushedOf d.owner).Nodup
structure Dq.Ok (d : Dq) : Prop where
  lim : d.Lim
  rng : d.Rng
  frm : d.Frm
  onc : d.Onc
open Classical in
/-- The error of a deque. -/
noncomputable def DqE (d : Dq) : Int := if ¬ d.Lim then 5 else if ¬ d.Rng then 3 else if ¬ d.Frm then 4 else if ¬ d.Onc then 6 else 0
theorem DqE_lim {d : Dq} (h : ¬ d.Lim) : DqE d = 5 := by unfold DqE; rw [if_pos h]
theorem DqE_rng {d : Dq} (h : d.Lim) (k : ¬ d.Rng) : DqE d = 3 := by unfold DqE; rw [if_neg (fun x => x h), if_pos k]
theorem DqE_frm {d : Dq} (h : d.Lim) (k : d.Rng) (l : ¬ d.Frm) : DqE d = 4 := by unfold DqE; rw [if_neg (fun x => x h), if_neg (fun x => x k), if_pos l]
theorem DqE_onc {d : Dq} (h : d.Lim) (k : d.Rng) (l : d.Frm) (m : ¬ d.Onc) : DqE d = 6 := by unfold DqE; rw [if_neg (fun x => x h), if_neg (fun x => x k), if_neg (fun x => x l), if_pos m]
theorem DqE_ok {d : Dq} (h : d.Ok) : DqE d = 0 := by unfold DqE; rw [if_neg (fun x => x h.lim), if_neg (fun x => x h.rng), if_neg (fun x => x h.frm), if_neg (fun x => x h.onc)]
theorem DqE_zero {d : Dq} (h : DqE d = 0) : d.Ok := by
  unfold DqE at h
  split at h
  · cases h
  split at h
  · cases h
  split at h
  · cases h
  split at h
  · cases h
  rename_i a b c e
  exact ⟨Classical.not_not.1 a, Classical.not_not.1 b, Classical.not_not.1 c, Classical.not_not.1 e⟩
theorem cpt_le : ∀ (l : List Int), (cpt l).length ≤ l.length
  | [] => Nat.le_refl _
  | [x] => Nat.le_refl _
  | x :: y :: r => by
    have := cpt_le (y :: r)
    rw [cpt]
    split
    · exact Nat.le_succ_of_le this
    · exact Nat.succ_le_succ this
/-- A sorted row gets shorter just if something stands in it twice. -/
theorem cpt_lt : ∀ {l : List Int}, l.Pairwise (· ≤ ·) → ((cpt l).length < l.length ↔ ¬ l.Nodup)
  | [], _ => by simp [cpt]
  | [x], _ => by simp [cpt]
  | x :: y :: r, h => by
    have h' := List.pairwise_cons.1 h
    have ih := cpt_lt h'.2
    have hle := cpt_le (y :: r)
    rw [cpt]
    split
    · rename_i e
      subst e
      constructor
      · intro _ hn
        exact (List.nodup_cons.1 hn).1 (List.mem_cons_self ..)
      · intro _
        exact Nat.lt_succ_of_le hle
    · rename_i e
      have hx : x ∉ y :: r := fun hm => by
        have h2 := List.pairwise_cons.1 h'.2
        have := h'.1 y (List.mem_cons_self ..)
        rcases List.mem_cons.1 hm with rfl | q
        · exact e rfl
        · have := h2.1 x q; omega
      rw [List.nodup_cons]
      simp only [List.length_cons] at ih ⊢
      constructor
      · intro h1 hn
        exact ih.1 (by omega) hn.2
      · intro hn
        have := ih.2 fun k => hn ⟨hx, k⟩
        omega
/-! ### programs -/
structure Ins where
  op : Int
  a : Int
  b : Int
  c : Int
  d : Int
  n : Int
abbrev insC (i : Ins) : List Value := [.int .u8 i.op, .int .i64 i.a, .int .i64 i.b, .int .i64 i.c, .int .i64 i.d, .int .i64 i.n]
abbrev insL (l : List Ins) : List Value := l.flatMap insC
theorem insC_len (i : Ins) : (insC i).length = 6 := rfl
theorem insL_len (l : List Ins) : (insL l).length = l.length * 6 := fm_len insC_len l
theorem insL_get {l : List Ins} {j : Nat} (h : j < l.length) : getCells (insL l) (j * 6) 6 = some (insC l[j]) := fm_get insC_len h
theorem insL_append (l m : List Ins) : insL (l ++ m) = insL l ++ insL m := List.flatMap_append ..
theorem insL_ok (l : List Ins) : okCells (insL l) = true := fm_ok (fun _ => rfl) l
theorem actL_get {l : List Act} {j : Nat} (h : j < l.length) : getCells (l.flatMap actC) (j * 2) 2 = some (actC l[j]) := fm_get (f := actC) (k := 2) (fun _ => rfl) h
theorem actL_ok (l : List Act) : okCells (l.flatMap actC) = true := fm_ok (fun _ => rfl) l
def pushI (at_ item : Int) : List Ins :=
  [⟨8, 1, 0, 0, 0, 1⟩, ⟨8, 2, 0, 0, 0, 0⟩, ⟨3, 3, 1, 2, 0, 0⟩, ⟨6, 5, 8, 3, 0, 0⟩, ⟨14, 5, 0, 0, 0, at_ + 12⟩, ⟨4, 6, 1, 8, 0, 0⟩, ⟨1, 7, 0, 0, 0, item⟩, ⟨9, 7, 6, 0, 0, 2⟩,
   ⟨2, 1, 1, 9, 0, 0⟩, ⟨9, 1, 0, 0, 0, 1⟩, ⟨15, 7, 0, 0, 0, 0⟩, ⟨13, 0, 0, 0, 0, at_ + 14⟩, ⟨1, 7, 0, 0, 0, -2⟩, ⟨15, 7, 0, 0, 0, 0⟩]
/-- What stands behind the fence of a pop; f: what is added to its jumps. -/
def popT (f : Int) : List Ins :=
  [⟨8, 2, 0, 0, 0, 0⟩, ⟨6, 5, 2, 1, 0, 0⟩, ⟨14, 5, 0, 0, 0, f + 10⟩, ⟨9, 2, 0, 0, 0, 1⟩, ⟨15, 0, 0, 0, 0, 0⟩, ⟨13, 0, 0, 0, 0, f + 21⟩, ⟨4, 6, 1, 8, 0, 0⟩, ⟨8, 7, 6, 0, 0, 2⟩,
   ⟨7, 5, 1, 2, 0, 0⟩, ⟨14, 5, 0, 0, 0, f + 18⟩, ⟨2, 3, 2, 9, 0, 0⟩, ⟨10, 5, 0, 2, 3, 0⟩, ⟨9, 3, 0, 0, 0, 1⟩, ⟨14, 5, 0, 0, 0, f + 20⟩, ⟨15, 7, 0, 0, 0, 0⟩, ⟨13, 0, 0, 0, 0, f + 21⟩, ⟨15, 0, 0, 0, 0, 0⟩]
def popH : List Ins := [⟨8, 1, 0, 0, 0, 1⟩, ⟨3, 1, 1, 9, 0, 0⟩, ⟨9, 1, 0, 0, 0, 1⟩]
def popI (at_ : Int) (fence : Bool) : List Ins := if fence = true then popH ++ [⟨11, 0, 0, 0, 0, 0⟩] ++ popT at_ else popH ++ popT (at_ - 1)
def stealI (at_ : Int) : List Ins :=
  [⟨8, 2, 0, 0, 0, 0⟩, ⟨8, 1, 0, 0, 0, 1⟩, ⟨6, 5, 1, 2, 0, 0⟩, ⟨14, 5, 0, 0, 0, at_ + 11⟩, ⟨4, 6, 2, 8, 0, 0⟩, ⟨8, 7, 6, 0, 0, 2⟩, ⟨2, 3, 2, 9, 0, 0⟩, ⟨10, 5, 0, 2, 3, 0⟩,
   ⟨14, 5, 0, 0, 0, at_ + 13⟩, ⟨15, 7, 0, 0, 0, 0⟩, ⟨13, 0, 0, 0, 0, at_ + 15⟩, ⟨15, 0, 0, 0, 0, 0⟩, ⟨13, 0, 0, 0, 0, at_ + 15⟩, ⟨1, 4, 0, 0, 0, -1⟩, ⟨15, 4, 0, 0, 0, 0⟩]
theorem pushI_len (a i : Int) : (pushI a i).length = 14 := rfl
theorem stealI_len (a : Int) : (stealI a).length = 15 := rfl
theorem popI_len (a : Int) (f : Bool) : (popI a f).length ≤ 21 := by cases f <;> exact Nat.le_of_ble_eq_true rfl
/-- What a thread does: the act by the number of its first instruction, and its own. -/
def thrI (size : Int) (f : Int → Nat → List Ins) : Nat → List Ins
  | 0 => [⟨1, 8, 0, 0, 0, size⟩, ⟨1, 9, 0, 0, 0, 1⟩]
  | m + 1 => thrI size f m ++ f (thrI size f m).length m
theorem thrI_len {size : Int} {f : Int → Nat → List Ins} {k : Nat} (hk : ∀ a i, (f a i).length ≤ k) : ∀ m, (thrI size f m).length ≤ 2 + m * k
  | 0 => by simp [thrI]
  | m + 1 => by
    have h1 := thrI_len hk m (size := size)
    have h2 := hk (thrI size f m).length m
    rw [thrI, List.length_append, Nat.add_mul]; omega
def actI (fence : Bool) (l : List Act) (at_ : Int) (i : Nat) : List Ins :=
  match l[i]? with
  | none => []
  | some a => if a.push = true then pushI at_ a.n else popI at_ fence
theorem actI_get {fence : Bool} {l : List Act} {at_ : Int} {i : Nat} (h : i < l.length) : actI fence l at_ i = if l[i].push = true then pushI at_ l[i].n else popI at_ fence := by
  unfold actI; rw [List.getElem?_eq_getElem h]
theorem actI_len {fence : Bool} {l : List Act} (at_ : Int) (i : Nat) : (actI fence l at_ i).length ≤ 21 := by
  unfold actI
  split
  · decide
  · split
    · rw [pushI_len]; decide
    · exact popI_len ..
def ownI (d : Dq) : List Ins := thrI d.size (actI d.fence d.owner) d.owner.length
def thiefI (d : Dq) (m : Int) : List Ins := thrI d.size (fun a _ => stealI a) m.toNat
def progI (d : Dq) : List (List Ins) := ownI d :: d.thieves.map (thiefI d)
end Go.Proofs.J
/- The sort of numbers: insertion sort, heap sort, reversal. -/
namespace Go.Proofs.J
open Go.Ev Go Go.Sort
set_option linter.unusedVariables false
set_option maxHeartbeats 4000000
theorem sNaN {Z : Zone} {x : Int} : Cz M (.func (.func 178) #[] #[]) [.int .i64 x] Z [] (fun v' Z' A' => v' = .bool false ∧ Z = Z' ∧ A' = []) := by
  refine Cz.fn (f := Tryz.f178) (by kernel_rfl) rfl rfl rfl _ rfl ?_
  (repeat (first | refine go ?_ | with_reducible intro _))
  refine Wk.ret ⟨_, Rs.tmp rfl Rs.nil, _, Sub.none _, by simp [outOf], rfl, rfl⟩
theorem sLess {Z : Zone} {x y : Int} : Cz M (.func (.func 148) #[] #[]) [.int .i64 x, .int .i64 y] Z [] (fun v' Z' A' => v' = .bool (ltInt x y) ∧ Z = Z' ∧ A' = []) := by
  refine Cz.fn (f := Tryz.f148) (by kernel_rfl) rfl rfl rfl _ rfl ?_
  (repeat (first | refine go ?_ | with_reducible intro _))
  refine Wk.call rfl rfl (Spl.none _) (sNaN) rfl rfl rfl ?_
  rintro v' Z' A' hz ⟨rfl, rfl, rfl⟩
  (repeat (first | refine go ?_ | with_reducible intro _))
  refine Wk.ret ⟨_, Rs.tmp rfl Rs.nil, _, Sub.none _, by simp [outOf, ltInt], rfl, rfl⟩
theorem insertion {Z : Zone} {v : Value} {b0 n a b : Nat} {d : Array Int} (hn : d.size = n) (hb : b ≤ n) (hs : n ≤ 1000000) (ha : a ≤ n) :
    Cz M (.func (.func 142) #[] #[]) [v, .int .i64 a, .int .i64 b] Z [olp b0 1 v n (ic d)] (fun v' Z' A' => Z = Z' ∧ A' = [olp b0 1 v n (ic (insertionSort ltInt d a b))]) := by
  refine Cz.fn (f := Tryz.f142) (by kernel_rfl) rfl rfl rfl _ rfl ?_
  (repeat (first | refine go ?_ | with_reducible intro _))
  refine Wk.loop (fun mm L Z' A' => ∃ (i : Nat) (e : Array Int), a + 1 ≤ i ∧ i ≤ n + 1 ∧ mm = n + 2 - i ∧ Z = Z' ∧ A' = [olp b0 1 v n (ic e)] ∧ e.size = n ∧ insOuter ltInt a b i e = insertionSort ltInt d a b ∧ Kp L [(0, v), (1, .int .i64 a), (2, .int .i64 b), (6, .int .i64 i)]) (n + 2 - (a + 1)) ⟨a + 1, d, Nat.le_refl _, by omega, rfl, rfl, rfl, hn, rfl, (by repeat (first | exact trivial | refine And.intro rfl ?_ | refine And.intro (kpI rfl (by omega)) ?_))⟩ ?_
  rintro mm L Z' A' - ⟨i, e, hi, hi2, rfl, rfl, rfl, he, hf, hk⟩
  refine Wk.kp hk ?_
  clear hk
  (repeat (first | refine go ?_ | with_reducible intro _))
  refine Wk.cond rfl (fun hc => ?_) (fun hc => ?_)
  · have hlt : i < b := by simp at hc; omega
    clear hc
    have hstep : insOuter ltInt a b i e = insOuter ltInt a b (i + 1) (insInner ltInt a i e) := by rw [insOuter, if_pos hlt]
    (repeat (first | refine go ?_ | with_reducible intro _))
    refine Wk.loop (fun mm L Z' A' => ∃ (j : Nat) (e' : Array Int), j ≤ i ∧ mm = j ∧ Z = Z' ∧ A' = [olp b0 1 v n (ic e')] ∧ e'.size = n ∧ insInner ltInt a j e' = insInner ltInt a i e ∧ Kp L [(0, v), (1, .int .i64 a), (2, .int .i64 b), (6, .int .i64 i), (7, .int .i64 j)]) i ⟨i, e, Nat.le_refl _, rfl, rfl, rfl, he, rfl, (by repeat (first | exact trivial | refine And.intro rfl ?_ | refine And.intro (kpI rfl (by omega)) ?_))⟩ ?_
    rintro mm L Z' A' - ⟨j, e', hj, hmm, rfl, rfl, he', hf', hk⟩
    refine Wk.kp hk ?_
    clear hk
    (repeat (first | refine go ?_ | with_reducible intro _))
    refine Wk.drawr (ms := [0, 0, 3, 7, 15, 15, 63, 127, 15, 15, 527, 1807, 3855, 8191, 16383]) (l := [0, 1, 2, 3, 4, 5, 6, 7, 8, 9, 10, 11, 12, 13, 14]) (by kernel_rfl) (by kernel_rfl) (by kernel_rfl) rfl ?_
    (repeat (first | refine go ?_ | with_reducible intro _))
    refine Wk.caser 19 rfl (fun hc => ?_) (fun hc => ?_)
    · have hja : a < j := by simp at hc; omega
      clear hc
      obtain ⟨q, rfl⟩ : ∃ q, j = q + 1 := ⟨j - 1, by omega⟩
      (repeat (first | refine go ?_ | with_reducible intro _))
      refine Wk.iaP (q + 1) rfl rfl rfl rfl (by repeat (first | exact Rem.head | apply Rem.tail)) rfl rfl (by omega) (by omega) ?_
      refine Wk.loadOlp (cs := [_]) rfl rfl (by repeat (first | exact Rem.head | apply Rem.tail)) (Go.Proofs.J.ic_get (by first | omega | (simp only [Array.size_setIfInBounds, Go.Proofs.J.swp_size]; omega))) rfl rfl rfl ?_
      (repeat (first | refine go ?_ | with_reducible intro _))
      refine Wk.iaP (q) rfl rfl rfl rfl (by repeat (first | exact Rem.head | apply Rem.tail)) rfl rfl (by omega) (by omega) ?_
      refine Wk.loadOlp (cs := [_]) rfl rfl (by repeat (first | exact Rem.head | apply Rem.tail)) (Go.Proofs.J.ic_get (by first | omega | (simp only [Array.size_setIfInBounds, Go.Proofs.J.swp_size]; omega))) rfl rfl rfl ?_
      (repeat (first | refine go ?_ | with_reducible intro _))
      refine Wk.call rfl rfl (Spl.none _) (sLess) (by kernel_rfl) rfl rfl ?_
      rintro v' Z' A' hz ⟨rfl, rfl, rfl⟩
      (repeat (first | refine go ?_ | with_reducible intro _))
      refine Wk.cond rfl (fun hc => ?_) (fun hc => ?_)
      · have e1 : insInner ltInt a (q + 1) e' = insInner ltInt a q (swp e' (q + 1) q) := by
          rw [insInner, if_pos]
          simp only [Bool.and_eq_true, decide_eq_true_eq]
          exact ⟨hja, hc⟩
        (repeat (first | refine go ?_ | with_reducible intro _))
        refine Wk.drawr (ms := [0, 0, 0, 0, 8, 0, 0, 64, 224, 480, 0, 0, 3072, 7168, 16355, 32739, 65535, 131071]) (l := [0, 1, 2, 3, 4, 5, 6, 7, 8, 9, 10, 11, 12, 13, 14, 15, 16, 17]) (by kernel_rfl) (by kernel_rfl) (by kernel_rfl) rfl ?_
        (repeat (first | refine go ?_ | with_reducible intro _))
        refine Wk.iaP (q) rfl rfl rfl rfl (by repeat (first | exact Rem.head | apply Rem.tail)) rfl rfl (by omega) (by omega) ?_
        refine Wk.loadOlp (cs := [_]) rfl rfl (by repeat (first | exact Rem.head | apply Rem.tail)) (Go.Proofs.J.ic_get (by first | omega | (simp only [Array.size_setIfInBounds, Go.Proofs.J.swp_size]; omega))) rfl rfl rfl ?_
        (repeat (first | refine go ?_ | with_reducible intro _))
        refine Wk.iaP (q + 1) rfl rfl rfl rfl (by repeat (first | exact Rem.head | apply Rem.tail)) rfl rfl (by omega) (by omega) ?_
        refine Wk.loadOlp (cs := [_]) rfl rfl (by repeat (first | exact Rem.head | apply Rem.tail)) (Go.Proofs.J.ic_get (by first | omega | (simp only [Array.size_setIfInBounds, Go.Proofs.J.swp_size]; omega))) rfl rfl rfl ?_
        (repeat (first | refine go ?_ | with_reducible intro _))
        refine Wk.iaP (q + 1) rfl rfl rfl rfl (by repeat (first | exact Rem.head | apply Rem.tail)) rfl rfl (by omega) (by omega) ?_
        refine Wk.storeOlp rfl rfl rfl rfl rfl (by repeat (first | exact Rem.head | apply Rem.tail)) (Go.Proofs.J.ic_set (by first | omega | (simp only [Array.size_setIfInBounds, Go.Proofs.J.swp_size]; omega))) (by kernel_rfl) rfl ?_
        refine Wk.iaP (q) rfl rfl rfl rfl (by repeat (first | exact Rem.head | apply Rem.tail)) rfl rfl (by omega) (by omega) ?_
        refine Wk.storeOlp rfl rfl rfl rfl rfl (by repeat (first | exact Rem.head | apply Rem.tail)) (Go.Proofs.J.ic_set (by first | omega | (simp only [Array.size_setIfInBounds, Go.Proofs.J.swp_size]; omega))) (by kernel_rfl) rfl ?_
        (repeat (first | refine go ?_ | with_reducible intro _))
        exact Wk.inv ⟨_, by omega, q, swp e' (q + 1) q, by omega, rfl, rfl, rfl, by rw [swp_size]; exact he', by rw [← e1]; exact hf', (by repeat (first | exact trivial | refine And.intro rfl ?_ | refine And.intro (kpI rfl (by omega)) ?_))⟩
      · have e1 : insInner ltInt a (q + 1) e' = e' := by
          rw [insInner, if_neg]
          simp only [Bool.and_eq_true, decide_eq_true_eq]
          rintro ⟨_, hq⟩
          rw [hq] at hc; cases hc
        (repeat (first | refine go ?_ | with_reducible intro _))
        exact Wk.inv ⟨_, by omega, i + 1, e', by omega, by omega, rfl, rfl, rfl, he', by rw [← hf, hstep, ← hf', e1], (by repeat (first | exact trivial | refine And.intro rfl ?_ | refine And.intro (kpI rfl (by omega)) ?_))⟩
    · have hja : j ≤ a := by simp at hc; omega
      clear hc
      have e1 : insInner ltInt a j e' = e' := by
        cases j with
        | zero => rfl
        | succ j =>
          rw [insInner, if_neg]
          simp only [Bool.and_eq_true, decide_eq_true_eq]
          rintro ⟨q, _⟩
          omega
      (repeat (first | refine go ?_ | with_reducible intro _))
      exact Wk.inv ⟨_, by omega, i + 1, e', by omega, by omega, rfl, rfl, rfl, he', by rw [← hf, hstep, ← hf', e1], (by repeat (first | exact trivial | refine And.intro rfl ?_ | refine And.intro (kpI rfl (by omega)) ?_))⟩
  · have hge : ¬ i < b := by simp at hc; omega
    have e1 : insOuter ltInt a b i e = e := by rw [insOuter, if_neg hge]
    (repeat (first | refine go ?_ | with_reducible intro _))
    refine Wk.done ⟨_, Rs.nil, _, Sub.refl _, rfl, by rw [← hf, e1]⟩
theorem and_l {p : Prop} [Decidable p] {b : Bool} (h : p) : some (Value.bool b) = some (Value.bool (decide p && b)) := by simp [h]
theorem and_f {p : Prop} [Decidable p] {b : Bool} (h : ¬ p) : some (Value.bool false) = some (Value.bool (decide p && b)) := by simp [h]
theorem siftDown_size : ∀ (k hi first root : Nat) (d : Array Int), hi - root ≤ k → (siftDown ltInt hi first root d).size = d.size := by
  intro k
  induction k with
  | zero =>
    intro hi first root d h
    rw [siftDown, dif_pos (by omega)]
  | succ k ih =>
    intro hi first root d h
    rw [siftDown]
    split
    · rfl
    · split
      · split
        · rfl
        · split
          · rw [ih _ _ _ _ (by omega), swp_size]
          · rfl
      · split
        · rfl
        · rw [ih _ _ _ _ (by omega), swp_size]
theorem sift {Z : Zone} {v : Value} {b0 n lo hi first : Nat} {d : Array Int} (hn : d.size = n) (hb : first + hi ≤ n) (hs : n ≤ 1000000) (hl : lo ≤ n) :
    Cz M (.func (.func 173) #[] #[]) [v, .int .i64 lo, .int .i64 hi, .int .i64 first] Z [olp b0 1 v n (ic d)] (fun v' Z' A' => Z = Z' ∧ A' = [olp b0 1 v n (ic (siftDown ltInt hi first lo d))]) := by
  refine Cz.fn (f := Tryz.f173) (by kernel_rfl) rfl rfl rfl _ rfl ?_
  (repeat (first | refine go ?_ | with_reducible intro _))
  refine Wk.loop (fun mm L Z' A' => ∃ (i : Nat) (e : Array Int), i ≤ n ∧ mm = n - i ∧ Z = Z' ∧ A' = [olp b0 1 v n (ic e)] ∧ e.size = n ∧ siftDown ltInt hi first i e = siftDown ltInt hi first lo d ∧ Kp L [(0, v), (2, .int .i64 hi), (3, .int .i64 first), (8, .int .i64 i)]) (n - lo) ⟨lo, d, hl, rfl, rfl, rfl, hn, rfl, (by repeat (first | exact trivial | refine And.intro rfl ?_ | refine And.intro (kpI rfl (by omega)) ?_))⟩ ?_
  rintro mm L Z' A' - ⟨i, e, hi2, rfl, rfl, rfl, he, hf, hk⟩
  refine Wk.kp hk ?_
  clear hk
  (repeat (first | refine go ?_ | with_reducible intro _))
  refine Wk.cond rfl (fun hc => ?_) (fun hc => ?_)
  · have e1 : siftDown ltInt hi first i e = e := by rw [siftDown, dif_pos (by simp at hc; omega)]
    (repeat (first | refine go ?_ | with_reducible intro _))
    refine Wk.done ⟨_, Rs.nil, _, Sub.refl _, rfl, by rw [← hf, e1]⟩
  have h1 : 2 * i + 1 < hi := by simp at hc; omega
  clear hc
  rw [siftDown, dif_neg (by omega)] at hf
  (repeat (first | refine go ?_ | with_reducible intro _))
  refine Wk.drawr (ms := [0, 1, 0, 7, 15, 31, 31, 31, 223, 511, 1023, 31, 31, 31, 12319, 28703, 63519, 129055, 262143, 524287]) (l := [0, 1, 2, 3, 4, 5, 6, 7, 8, 9, 10, 11, 12, 13, 14, 15, 16, 17, 18, 19]) (by kernel_rfl) (by kernel_rfl) (by kernel_rfl) rfl ?_
  (repeat (first | refine go ?_ | with_reducible intro _))
  refine Wk.cutr (fun L Z' A' => Z = Z' ∧ A' = [olp b0 1 v n (ic e)] ∧ Kp L [(0, v), (2, .int .i64 hi), (3, .int .i64 first), (8, .int .i64 i), (9, .int .i64 (2 * i + 1 : Nat)), (36, .bool (decide (2 * i + 1 + 1 < hi) && ltInt e[first + (2 * i + 1)]! e[first + (2 * i + 1) + 1]!))]) ?_ ?_
  · refine Wk.caser 21 rfl (fun hc => ?_) (fun hc => ?_)
    · have h2 : 2 * i + 1 + 1 < hi := by simp at hc; omega
      clear hc
      (repeat (first | refine go ?_ | with_reducible intro _))
      refine Wk.iaP (first + (2 * i + 1)) rfl rfl rfl rfl (by repeat (first | exact Rem.head | apply Rem.tail)) rfl rfl (by omega) (by omega) ?_
      refine Wk.loadOlp (cs := [_]) rfl rfl (by repeat (first | exact Rem.head | apply Rem.tail)) (Go.Proofs.J.ic_get (by first | omega | (simp only [Array.size_setIfInBounds, Go.Proofs.J.swp_size]; omega))) rfl rfl rfl ?_
      (repeat (first | refine go ?_ | with_reducible intro _))
      refine Wk.iaP (first + (2 * i + 1) + 1) rfl rfl rfl rfl (by repeat (first | exact Rem.head | apply Rem.tail)) rfl rfl (by omega) (by omega) ?_
      refine Wk.loadOlp (cs := [_]) rfl rfl (by repeat (first | exact Rem.head | apply Rem.tail)) (Go.Proofs.J.ic_get (by first | omega | (simp only [Array.size_setIfInBounds, Go.Proofs.J.swp_size]; omega))) rfl rfl rfl ?_
      (repeat (first | refine go ?_ | with_reducible intro _))
      refine Wk.call rfl rfl (Spl.none _) (sLess) (by kernel_rfl) rfl rfl ?_
      rintro v' Z' A' hz ⟨rfl, rfl, rfl⟩
      (repeat (first | refine go ?_ | with_reducible intro _))
      refine Wk.inv ⟨rfl, rfl, rfl, rfl, rfl, rfl, by congr 1, and_l h2, trivial⟩
    · have h2 : ¬ 2 * i + 1 + 1 < hi := by simp at hc; omega
      clear hc
      (repeat (first | refine go ?_ | with_reducible intro _))
      refine Wk.inv ⟨rfl, rfl, rfl, rfl, rfl, rfl, by congr 1, and_f h2, trivial⟩
  rintro L Z' A' - ⟨rfl, rfl, hk⟩
  refine Wk.kp hk ?_
  clear hk
  refine Wk.cut (fun L Z' A' => ∃ c : Nat, (c = 2 * i + 1 ∨ c = 2 * i + 2) ∧ c < hi ∧ Z = Z' ∧ A' = [olp b0 1 v n (ic e)] ∧ (if !ltInt e[first + i]! e[first + c]! then e else siftDown ltInt hi first c (swp e (first + i) (first + c))) = siftDown ltInt hi first lo d ∧ Kp L [(0, v), (2, .int .i64 hi), (3, .int .i64 first), (8, .int .i64 i), (9, .int .i64 c)]) ?_ ?_
  · refine Wk.cond rfl (fun hc => ?_) (fun hc => ?_)
    · rw [if_pos hc] at hf
      have h2 : 2 * i + 1 + 1 < hi := by simp only [Bool.and_eq_true, decide_eq_true_eq] at hc; exact hc.1
      (repeat (first | refine go ?_ | with_reducible intro _))
      refine Wk.inv ⟨2 * i + 2, .inr rfl, by omega, rfl, rfl, ?_, rfl, rfl, rfl, rfl, by congr 1, trivial⟩
      rw [dif_pos (by omega)] at hf
      exact hf
    · rw [if_neg (by rw [hc]; simp)] at hf
      (repeat (first | refine go ?_ | with_reducible intro _))
      exact Wk.inv ⟨2 * i + 1, .inl rfl, by omega, rfl, rfl, hf, (by repeat (first | exact trivial | refine And.intro rfl ?_ | refine And.intro (kpI rfl (by omega)) ?_))⟩
  rintro L Z' A' - ⟨c, hc0, hc1, rfl, rfl, hf2, hk⟩
  clear hf
  refine Wk.kp hk ?_
  clear hk
  (repeat (first | refine go ?_ | with_reducible intro _))
  refine Wk.drawr (ms := [0, 0, 0, 6, 15, 31, 0, 0, 0, 384, 960, 1984, 4095, 8191]) (l := [0, 1, 2, 3, 4, 5, 6, 7, 8, 9, 10, 11, 12, 13]) (by kernel_rfl) (by kernel_rfl) (by kernel_rfl) rfl ?_
  (repeat (first | refine go ?_ | with_reducible intro _))
  refine Wk.iaP (first + i) rfl rfl rfl rfl (by repeat (first | exact Rem.head | apply Rem.tail)) rfl rfl (by omega) (by omega) ?_
  refine Wk.loadOlp (cs := [_]) rfl rfl (by repeat (first | exact Rem.head | apply Rem.tail)) (Go.Proofs.J.ic_get (by first | omega | (simp only [Array.size_setIfInBounds, Go.Proofs.J.swp_size]; omega))) rfl rfl rfl ?_
  (repeat (first | refine go ?_ | with_reducible intro _))
  refine Wk.iaP (first + c) rfl rfl rfl rfl (by repeat (first | exact Rem.head | apply Rem.tail)) rfl rfl (by omega) (by omega) ?_
  refine Wk.loadOlp (cs := [_]) rfl rfl (by repeat (first | exact Rem.head | apply Rem.tail)) (Go.Proofs.J.ic_get (by first | omega | (simp only [Array.size_setIfInBounds, Go.Proofs.J.swp_size]; omega))) rfl rfl rfl ?_
  (repeat (first | refine go ?_ | with_reducible intro _))
  refine Wk.call rfl rfl (Spl.none _) (sLess) (by kernel_rfl) rfl rfl ?_
  rintro v' Z' A' hz ⟨rfl, rfl, rfl⟩
  (repeat (first | refine go ?_ | with_reducible intro _))
  refine Wk.cond rfl (fun hc => ?_) (fun hc => ?_)
  · rw [if_pos hc] at hf2
    (repeat (first | refine go ?_ | with_reducible intro _))
    refine Wk.ret ⟨_, Rs.nil, _, Sub.refl _, rfl, by rw [← hf2]; rfl⟩
  · rw [if_neg (by rw [hc]; simp)] at hf2
    (repeat (first | refine go ?_ | with_reducible intro _))
    refine Wk.drawr (ms := [0, 0, 0, 6, 0, 0, 0, 96, 0, 0, 0, 1536, 3840, 7936, 0, 0, 0, 98304, 245760, 507904, 1048335, 2096911, 4194303, 8388607]) (l := [0, 1, 2, 3, 4, 5, 6, 7, 8, 9, 10, 11, 12, 13, 14, 15, 16, 17, 18, 19, 20, 21, 22, 23]) (by kernel_rfl) (by kernel_rfl) (by kernel_rfl) rfl ?_
    (repeat (first | refine go ?_ | with_reducible intro _))
    refine Wk.iaP (first + c) rfl rfl rfl rfl (by repeat (first | exact Rem.head | apply Rem.tail)) rfl rfl (by omega) (by omega) ?_
    refine Wk.loadOlp (cs := [_]) rfl rfl (by repeat (first | exact Rem.head | apply Rem.tail)) (Go.Proofs.J.ic_get (by first | omega | (simp only [Array.size_setIfInBounds, Go.Proofs.J.swp_size]; omega))) rfl rfl rfl ?_
    (repeat (first | refine go ?_ | with_reducible intro _))
    refine Wk.iaP (first + i) rfl rfl rfl rfl (by repeat (first | exact Rem.head | apply Rem.tail)) rfl rfl (by omega) (by omega) ?_
    refine Wk.loadOlp (cs := [_]) rfl rfl (by repeat (first | exact Rem.head | apply Rem.tail)) (Go.Proofs.J.ic_get (by first | omega | (simp only [Array.size_setIfInBounds, Go.Proofs.J.swp_size]; omega))) rfl rfl rfl ?_
    (repeat (first | refine go ?_ | with_reducible intro _))
    refine Wk.iaP (first + i) rfl rfl rfl rfl (by repeat (first | exact Rem.head | apply Rem.tail)) rfl rfl (by omega) (by omega) ?_
    refine Wk.storeOlp rfl rfl rfl rfl rfl (by repeat (first | exact Rem.head | apply Rem.tail)) (Go.Proofs.J.ic_set (by first | omega | (simp only [Array.size_setIfInBounds, Go.Proofs.J.swp_size]; omega))) (by kernel_rfl) rfl ?_
    refine Wk.iaP (first + c) rfl rfl rfl rfl (by repeat (first | exact Rem.head | apply Rem.tail)) rfl rfl (by omega) (by omega) ?_
    refine Wk.storeOlp rfl rfl rfl rfl rfl (by repeat (first | exact Rem.head | apply Rem.tail)) (Go.Proofs.J.ic_set (by first | omega | (simp only [Array.size_setIfInBounds, Go.Proofs.J.swp_size]; omega))) (by kernel_rfl) rfl ?_
    (repeat (first | refine go ?_ | with_reducible intro _))
    exact Wk.inv ⟨_, by omega, c, swp e (first + i) (first + c), by omega, rfl, rfl, rfl, by rw [swp_size]; exact he, hf2, (by repeat (first | exact trivial | refine And.intro rfl ?_ | refine And.intro (kpI rfl (by omega)) ?_))⟩
theorem heap {Z : Zone} {v : Value} {b0 n a b : Nat} {d : Array Int} (hn : d.size = n) (hb : b ≤ n) (hs : n ≤ 1000000) (hab : a < b) :
    Cz M (.func (.func 143) #[] #[]) [v, .int .i64 a, .int .i64 b] Z [olp b0 1 v n (ic d)] (fun v' Z' A' => Z = Z' ∧ A' = [olp b0 1 v n (ic (heapSort ltInt d a b))]) := by
  refine Cz.fn (f := Tryz.f143) (by kernel_rfl) rfl rfl rfl _ rfl ?_
  (repeat (first | refine go ?_ | with_reducible intro _))
  have hq : ((b : Int) - a - 1) / 2 = ((b - a - 1) / 2 : Nat) := by omega
  refine Wk.loop (fun mm L Z' A' => ∃ (k : Nat) (e : Array Int), k ≤ (b - a - 1) / 2 + 1 ∧ mm = k ∧ Z = Z' ∧ A' = [olp b0 1 v n (ic e)] ∧ e.size = n ∧ heapBuild ltInt (b - a) a k e = heapBuild ltInt (b - a) a ((b - a - 1) / 2 + 1) d ∧ Kp L [(0, v), (6, .int .i64 a), (7, .int .i64 0), (8, .int .i64 (b - a : Nat)), (9, .int .i64 ((k : Int) - 1))]) ((b - a - 1) / 2 + 1) ⟨(b - a - 1) / 2 + 1, d, Nat.le_refl _, rfl, rfl, rfl, hn, rfl, rfl, rfl, rfl, kpI rfl (by omega), kpI rfl (by omega), trivial⟩ ?_
  rintro mm L Z' A' - ⟨k, e, hk0, hmm, rfl, rfl, he, hf, hk⟩
  refine Wk.kp hk ?_
  clear hk
  (repeat (first | refine go ?_ | with_reducible intro _))
  refine Wk.cond rfl (fun hc => ?_) (fun hc => ?_)
  · obtain ⟨q, rfl⟩ : ∃ q, k = q + 1 := ⟨k - 1, by simp at hc; omega⟩
    clear hc
    refine Wk.tell 9 (.int .i64 (q : Nat)) rfl (by congr 1; omega) ?_
    (repeat (first | refine go ?_ | with_reducible intro _))
    refine Wk.call rfl rfl (Spl.all _) (sift he (by omega) hs (by omega)) rfl rfl rfl ?_
    rintro v' Z' A' hz ⟨rfl, rfl⟩
    (repeat (first | refine go ?_ | with_reducible intro _))
    refine Wk.inv ⟨_, by omega, q, _, by omega, rfl, rfl, rfl, by rw [siftDown_size _ _ _ _ _ (Nat.le_refl _)]; exact he, by rw [← hf]; rfl, (by repeat (first | exact trivial | refine And.intro rfl ?_ | refine And.intro (kpI rfl (by omega)) ?_))⟩
  obtain rfl : k = 0 := by simp at hc; omega
  clear hc
  have hf' : e = heapBuild ltInt (b - a) a ((b - a - 1) / 2 + 1) d := by rw [← hf]; rfl
  have hh : heapSort ltInt d a b = heapPop ltInt a (b - a) e := by rw [hf']; rfl
  (repeat (first | refine go ?_ | with_reducible intro _))
  refine Wk.loop (fun mm L Z' A' => ∃ (k : Nat) (e' : Array Int), k ≤ b - a ∧ mm = k ∧ Z = Z' ∧ A' = [olp b0 1 v n (ic e')] ∧ e'.size = n ∧ heapPop ltInt a k e' = heapPop ltInt a (b - a) e ∧ Kp L [(0, v), (6, .int .i64 a), (7, .int .i64 0), (10, .int .i64 ((k : Int) - 1))]) (b - a) ⟨b - a, e, Nat.le_refl _, rfl, rfl, rfl, he, rfl, rfl, rfl, rfl, kpI rfl (by omega), trivial⟩ ?_
  rintro mm L Z' A' - ⟨k, e', hk0, hmm, rfl, rfl, he', hf2, hk⟩
  refine Wk.kp hk ?_
  clear hk
  (repeat (first | refine go ?_ | with_reducible intro _))
  refine Wk.cond rfl (fun hc => ?_) (fun hc => ?_)
  · obtain ⟨q, rfl⟩ : ∃ q, k = q + 1 := ⟨k - 1, by simp at hc; omega⟩
    clear hc
    refine Wk.tell 10 (.int .i64 (q : Nat)) rfl (by congr 1; omega) ?_
    (repeat (first | refine go ?_ | with_reducible intro _))
    refine Wk.drawr (ms := [0, 0, 0, 0, 0, 24, 0, 0, 0, 384, 960, 1984, 0, 0, 12288, 28672, 65475, 131011, 262143, 524287]) (l := [0, 1, 2, 3, 4, 5, 6, 7, 8, 9, 10, 11, 12, 13, 14, 15, 16, 17, 18, 19]) (by kernel_rfl) (by kernel_rfl) (by kernel_rfl) rfl ?_
    (repeat (first | refine go ?_ | with_reducible intro _))
    refine Wk.iaP (a + q) rfl rfl rfl rfl (by repeat (first | exact Rem.head | apply Rem.tail)) rfl rfl (by omega) (by omega) ?_
    refine Wk.loadOlp (cs := [_]) rfl rfl (by repeat (first | exact Rem.head | apply Rem.tail)) (Go.Proofs.J.ic_get (by first | omega | (simp only [Array.size_setIfInBounds, Go.Proofs.J.swp_size]; omega))) rfl rfl rfl ?_
    (repeat (first | refine go ?_ | with_reducible intro _))
    refine Wk.iaP (a) rfl rfl rfl rfl (by repeat (first | exact Rem.head | apply Rem.tail)) rfl rfl (by omega) (by omega) ?_
    refine Wk.loadOlp (cs := [_]) rfl rfl (by repeat (first | exact Rem.head | apply Rem.tail)) (Go.Proofs.J.ic_get (by first | omega | (simp only [Array.size_setIfInBounds, Go.Proofs.J.swp_size]; omega))) rfl rfl rfl ?_
    (repeat (first | refine go ?_ | with_reducible intro _))
    refine Wk.iaP (a) rfl rfl rfl rfl (by repeat (first | exact Rem.head | apply Rem.tail)) rfl rfl (by omega) (by omega) ?_
    refine Wk.storeOlp rfl rfl rfl rfl rfl (by repeat (first | exact Rem.head | apply Rem.tail)) (Go.Proofs.J.ic_set (by first | omega | (simp only [Array.size_setIfInBounds, Go.Proofs.J.swp_size]; omega))) (by kernel_rfl) rfl ?_
    refine Wk.iaP (a + q) rfl rfl rfl rfl (by repeat (first | exact Rem.head | apply Rem.tail)) rfl rfl (by omega) (by omega) ?_
    refine Wk.storeOlp rfl rfl rfl rfl rfl (by repeat (first | exact Rem.head | apply Rem.tail)) (Go.Proofs.J.ic_set (by first | omega | (simp only [Array.size_setIfInBounds, Go.Proofs.J.swp_size]; omega))) (by kernel_rfl) rfl ?_
    (repeat (first | refine go ?_ | with_reducible intro _))
    refine Wk.call rfl rfl (Spl.all _) (sift (d := swp e' a (a + q)) (by rw [swp_size]; exact he') (by omega) hs (Nat.zero_le _)) rfl rfl rfl ?_
    rintro v' Z' A' hz ⟨rfl, rfl⟩
    (repeat (first | refine go ?_ | with_reducible intro _))
    refine Wk.inv ⟨_, by omega, q, _, by omega, rfl, rfl, rfl, by rw [siftDown_size _ _ _ _ _ (Nat.le_refl _), swp_size]; exact he', by rw [← hf2]; rfl, (by repeat (first | exact trivial | refine And.intro rfl ?_ | refine And.intro (kpI rfl (by omega)) ?_))⟩
  obtain rfl : k = 0 := by simp at hc; omega
  (repeat (first | refine go ?_ | with_reducible intro _))
  refine Wk.done ⟨_, Rs.nil, _, Sub.refl _, rfl, by rw [hh, ← hf2]; rfl⟩
theorem reverse_ {Z : Zone} {v : Value} {b0 n a b : Nat} {d : Array Int} (hn : d.size = n) (hb : b ≤ n) (hs : n ≤ 1000000) (hab : a < b) :
    Cz M (.func (.func 146) #[] #[]) [v, .int .i64 a, .int .i64 b] Z [olp b0 1 v n (ic d)] (fun v' Z' A' => Z = Z' ∧ A' = [olp b0 1 v n (ic (reverseRange d a b))]) := by
  refine Cz.fn (f := Tryz.f146) (by kernel_rfl) rfl rfl rfl _ rfl ?_
  (repeat (first | refine go ?_ | with_reducible intro _))
  refine Wk.loop (fun mm L Z' A' => ∃ (i j : Nat) (e : Array Int), j < b ∧ (j : Int) - i + 1 ≤ mm ∧ i ≤ b ∧ Z = Z' ∧ A' = [olp b0 1 v n (ic e)] ∧ e.size = n ∧ reverseLoop i j e = reverseRange d a b ∧ Kp L [(0, v), (6, .int .i64 i), (7, .int .i64 j)]) b ⟨a, b - 1, d, by omega, by omega, by omega, rfl, rfl, hn, rfl, rfl, rfl, kpI rfl (by omega), trivial⟩ ?_
  rintro mm L Z' A' - ⟨i, j, e, hj, hm, hib, rfl, rfl, he, hf, hk⟩
  refine Wk.kp hk ?_
  clear hk
  rw [reverseLoop] at hf
  (repeat (first | refine go ?_ | with_reducible intro _))
  refine Wk.cond rfl (fun hc => ?_) (fun hc => ?_)
  · have hij : i < j := by simp at hc; omega
    clear hc
    rw [if_pos hij] at hf
    (repeat (first | refine go ?_ | with_reducible intro _))
    refine Wk.drawr (ms := [0, 0, 0, 0, 0, 0, 48, 112, 0, 0, 768, 1792, 4083, 8179, 16383, 32767]) (l := [0, 1, 2, 3, 4, 5, 6, 7, 8, 9, 10, 11, 12, 13, 14, 15]) (by kernel_rfl) (by kernel_rfl) (by kernel_rfl) rfl ?_
    (repeat (first | refine go ?_ | with_reducible intro _))
    refine Wk.iaP (j) rfl rfl rfl rfl (by repeat (first | exact Rem.head | apply Rem.tail)) rfl rfl (by omega) (by omega) ?_
    refine Wk.loadOlp (cs := [_]) rfl rfl (by repeat (first | exact Rem.head | apply Rem.tail)) (Go.Proofs.J.ic_get (by first | omega | (simp only [Array.size_setIfInBounds, Go.Proofs.J.swp_size]; omega))) rfl rfl rfl ?_
    (repeat (first | refine go ?_ | with_reducible intro _))
    refine Wk.iaP (i) rfl rfl rfl rfl (by repeat (first | exact Rem.head | apply Rem.tail)) rfl rfl (by omega) (by omega) ?_
    refine Wk.loadOlp (cs := [_]) rfl rfl (by repeat (first | exact Rem.head | apply Rem.tail)) (Go.Proofs.J.ic_get (by first | omega | (simp only [Array.size_setIfInBounds, Go.Proofs.J.swp_size]; omega))) rfl rfl rfl ?_
    (repeat (first | refine go ?_ | with_reducible intro _))
    refine Wk.iaP (i) rfl rfl rfl rfl (by repeat (first | exact Rem.head | apply Rem.tail)) rfl rfl (by omega) (by omega) ?_
    refine Wk.storeOlp rfl rfl rfl rfl rfl (by repeat (first | exact Rem.head | apply Rem.tail)) (Go.Proofs.J.ic_set (by first | omega | (simp only [Array.size_setIfInBounds, Go.Proofs.J.swp_size]; omega))) (by kernel_rfl) rfl ?_
    refine Wk.iaP (j) rfl rfl rfl rfl (by repeat (first | exact Rem.head | apply Rem.tail)) rfl rfl (by omega) (by omega) ?_
    refine Wk.storeOlp rfl rfl rfl rfl rfl (by repeat (first | exact Rem.head | apply Rem.tail)) (Go.Proofs.J.ic_set (by first | omega | (simp only [Array.size_setIfInBounds, Go.Proofs.J.swp_size]; omega))) (by kernel_rfl) rfl ?_
    (repeat (first | refine go ?_ | with_reducible intro _))
    refine Wk.inv ⟨mm - 1, by omega, i + 1, j - 1, swp e i j, by omega, by omega, by omega, rfl, rfl, by rw [swp_size]; exact he, hf, rfl, kpI rfl (by omega), kpI rfl (by omega), trivial⟩
  · rw [if_neg (by simp at hc; omega)] at hf
    (repeat (first | refine go ?_ | with_reducible intro _))
    refine Wk.done ⟨_, Rs.nil, _, Sub.refl _, rfl, by rw [← hf]⟩
end Go.Proofs.J
/- The sort of numbers: the pivot. -/
namespace Go.Proofs.J
open Go.Ev Go Go.Sort
set_option linter.unusedVariables false
set_option maxHeartbeats 4000000
theorem order2_ {Z : Zone} {v : Value} {b0 bs n a b k : Nat} {d : Array Int} (hn : d.size = n) (ha : a < n) (hb : b < n) (hs : n ≤ 1000000) (hk : k ≤ 1000) :
    Cz M (.func (.func 190) #[] #[]) [v, .int .i64 a, .int .i64 b, .pointer (some ⟨bs, 0, none⟩)] Z [pt bs (.cells [.int .i64 k] true 0), olp b0 1 v n (ic d)]
      (fun v' Z' A' => ∃ x y k' : Nat, v' = .tuple ⟨[.int .i64 x, .int .i64 y]⟩ ∧ (x = a ∧ y = b ∨ x = b ∧ y = a) ∧ k' ≤ k + 1 ∧ Z = Z' ∧ A' = [pt bs (.cells [.int .i64 k'] true 0), olp b0 1 v n (ic d)]) := by
  refine Cz.fn (f := Tryz.f190) (by kernel_rfl) rfl rfl rfl _ rfl ?_
  (repeat (first | refine go ?_ | with_reducible intro _))
  refine Wk.drawr (ms := [0, 0, 3, 7, 0, 0, 48, 112, 255]) (l := [0, 1, 2, 3, 4, 5, 6, 7, 8]) (by kernel_rfl) (by kernel_rfl) (by kernel_rfl) rfl ?_
  (repeat (first | refine go ?_ | with_reducible intro _))
  refine Wk.iaP (b) rfl rfl rfl rfl (by repeat (first | exact Rem.head | apply Rem.tail)) rfl rfl (by omega) (by omega) ?_
  refine Wk.loadOlp (cs := [_]) rfl rfl (by repeat (first | exact Rem.head | apply Rem.tail)) (Go.Proofs.J.ic_get (by first | omega | (simp only [Array.size_setIfInBounds, Go.Proofs.J.swp_size]; omega))) rfl rfl rfl ?_
  (repeat (first | refine go ?_ | with_reducible intro _))
  refine Wk.iaP (a) rfl rfl rfl rfl (by repeat (first | exact Rem.head | apply Rem.tail)) rfl rfl (by omega) (by omega) ?_
  refine Wk.loadOlp (cs := [_]) rfl rfl (by repeat (first | exact Rem.head | apply Rem.tail)) (Go.Proofs.J.ic_get (by first | omega | (simp only [Array.size_setIfInBounds, Go.Proofs.J.swp_size]; omega))) rfl rfl rfl ?_
  (repeat (first | refine go ?_ | with_reducible intro _))
  refine Wk.call rfl rfl (Spl.none _) (sLess) (by kernel_rfl) rfl rfl ?_
  rintro v' Z' A' hz ⟨rfl, rfl, rfl⟩
  (repeat (first | refine go ?_ | with_reducible intro _))
  refine Wk.cond rfl (fun hc => ?_) (fun hc => ?_)
  · (repeat (first | refine go ?_ | with_reducible intro _))
    refine Wk.ret ⟨_, Rs.tmp rfl (Rs.tmp rfl Rs.nil), _, (by repeat (first | exact Sub.none _ | exact Sub.refl _ | refine Sub.keep ?_ | refine Sub.drop ?_)), b, a, k + 1, rfl, .inr ⟨rfl, rfl⟩, Nat.le_refl _, rfl, rfl⟩
  · (repeat (first | refine go ?_ | with_reducible intro _))
    refine Wk.ret ⟨_, Rs.tmp rfl (Rs.tmp rfl Rs.nil), _, (by repeat (first | exact Sub.none _ | exact Sub.refl _ | refine Sub.keep ?_ | refine Sub.drop ?_)), a, b, k, rfl, .inl ⟨rfl, rfl⟩, by omega, rfl, rfl⟩
theorem median_ {Z : Zone} {v : Value} {b0 bs n a b c k : Nat} {d : Array Int} (hn : d.size = n) (ha : a < n) (hb : b < n) (hc : c < n) (hs : n ≤ 1000000) (hk : k ≤ 500) :
    Cz M (.func (.func 177) #[] #[]) [v, .int .i64 a, .int .i64 b, .int .i64 c, .pointer (some ⟨bs, 0, none⟩)] Z [pt bs (.cells [.int .i64 k] true 0), olp b0 1 v n (ic d)]
      (fun v' Z' A' => ∃ x k' : Nat, v' = .int .i64 x ∧ (x = a ∨ x = b ∨ x = c) ∧ k' ≤ k + 3 ∧ Z = Z' ∧ A' = [pt bs (.cells [.int .i64 k'] true 0), olp b0 1 v n (ic d)]) := by
  refine Cz.fn (f := Tryz.f177) (by kernel_rfl) rfl rfl rfl _ rfl ?_
  (repeat (first | refine go ?_ | with_reducible intro _))
  refine Wk.call rfl rfl (Spl.all _) (order2_ hn ha hb hs (by omega)) rfl rfl rfl ?_
  rintro v' Z' A' hz ⟨x1, y1, k1, rfl, h1, hk1, rfl, rfl⟩
  (repeat (first | refine go ?_ | with_reducible intro _))
  refine Wk.call rfl rfl (Spl.all _) (order2_ (a := y1) (b := c) hn (by omega) hc hs (by omega)) rfl rfl rfl ?_
  rintro v' Z' A' hz ⟨x2, y2, k2, rfl, h2, hk2, rfl, rfl⟩
  (repeat (first | refine go ?_ | with_reducible intro _))
  refine Wk.call rfl rfl (Spl.all _) (order2_ (a := x1) (b := x2) hn (by omega) (by omega) hs (by omega)) rfl rfl rfl ?_
  rintro v' Z' A' hz ⟨x3, y3, k3, rfl, h3, hk3, rfl, rfl⟩
  (repeat (first | refine go ?_ | with_reducible intro _))
  refine Wk.ret ⟨_, Rs.tmp rfl Rs.nil, _, (by repeat (first | exact Sub.none _ | exact Sub.refl _ | refine Sub.keep ?_ | refine Sub.drop ?_)), y3, k3, rfl, by omega, by omega, rfl, rfl⟩
theorem medianAdj {Z : Zone} {v : Value} {b0 bs n a k : Nat} {d : Array Int} (hn : d.size = n) (ha : 1 ≤ a) (hb : a + 1 < n) (hs : n ≤ 1000000) (hk : k ≤ 500) :
    Cz M (.func (.func 176) #[] #[]) [v, .int .i64 a, .pointer (some ⟨bs, 0, none⟩)] Z [pt bs (.cells [.int .i64 k] true 0), olp b0 1 v n (ic d)]
      (fun v' Z' A' => ∃ x k' : Nat, v' = .int .i64 x ∧ (x + 1 = a ∨ x = a ∨ x = a + 1) ∧ k' ≤ k + 3 ∧ Z = Z' ∧ A' = [pt bs (.cells [.int .i64 k'] true 0), olp b0 1 v n (ic d)]) := by
  refine Cz.fn (f := Tryz.f176) (by kernel_rfl) rfl rfl rfl _ rfl ?_
  (repeat (first | refine go ?_ | with_reducible intro _))
  obtain ⟨a, rfl⟩ : ∃ a', a = a' + 1 := ⟨a - 1, by omega⟩
  refine Wk.tellr 9 (.int .i64 (a : Nat)) rfl (by congr 1; omega) ?_
  refine Wk.tellr 12 (.int .i64 (a + 2 : Nat)) rfl (by congr 1) ?_
  refine Wk.call rfl rfl (Spl.all _) (median_ hn (by omega) (by omega) (by omega) hs (by omega)) rfl rfl rfl ?_
  rintro v' Z' A' hz ⟨x1, k1, rfl, h1, hk1, rfl, rfl⟩
  (repeat (first | refine go ?_ | with_reducible intro _))
  refine Wk.ret ⟨_, Rs.tmp rfl Rs.nil, _, (by repeat (first | exact Sub.none _ | exact Sub.refl _ | refine Sub.keep ?_ | refine Sub.drop ?_)), x1, k1, rfl, by omega, by omega, rfl, rfl⟩
theorem pivot_ {Z : Zone} {v : Value} {b0 n a b : Nat} {d : Array Int} (hn : d.size = n) (hab : a < b) (hb : b ≤ n) (hs : n ≤ 1000000) :
    Cz M (.func (.func 145) #[] #[]) [v, .int .i64 a, .int .i64 b] Z [olp b0 1 v n (ic d)]
      (fun v' Z' A' => ∃ (p : Nat) (h : Int), v' = .tuple ⟨[.int .i64 p, .int .i64 h]⟩ ∧ a ≤ p ∧ p < b ∧ Z = Z' ∧ A' = [olp b0 1 v n (ic d)]) := by
  refine Cz.fn (f := Tryz.f145) (by kernel_rfl) rfl rfl rfl _ rfl ?_
  (repeat (first | refine go ?_ | with_reducible intro _))
  rename_i bs
  refine Wk.cut (fun L Z' A' => ∃ (p k : Nat), a ≤ p ∧ p < b ∧ k ≤ 100 ∧ Z = Z' ∧ A' = [pt bs (.cells [.int .i64 k] true 0), olp b0 1 v n (ic d)] ∧ Kp L [(9, .pointer (some ⟨bs, 0, none⟩)), (11, .int .i64 p)]) ?_ ?_
  · refine Wk.tell 8 (.int .i64 (b - a : Nat)) rfl (by congr 1; omega) ?_
    refine Wk.tell 10 (.int .i64 (a + (b - a) / 4 * 1 : Nat)) rfl (by congr 1; omega) ?_
    refine Wk.tell 11 (.int .i64 (a + (b - a) / 4 * 2 : Nat)) rfl (by congr 1; omega) ?_
    refine Wk.tell 12 (.int .i64 (a + (b - a) / 4 * 3 : Nat)) rfl (by congr 1; omega) ?_
    (repeat (first | refine go ?_ | with_reducible intro _))
    refine Wk.cond rfl (fun hc => ?_) (fun hc => ?_)
    · have h8 : 8 ≤ b - a := by simp at hc; omega
      clear hc
      (repeat (first | refine go ?_ | with_reducible intro _))
      refine Wk.cut (fun L Z' A' => ∃ (i j k kk : Nat), (a ≤ i ∧ i < b) ∧ (a ≤ j ∧ j < b) ∧ (a ≤ k ∧ k < b) ∧ kk ≤ 9 ∧ Z = Z' ∧ A' = [pt bs (.cells [.int .i64 kk] true 0), olp b0 1 v n (ic d)] ∧ Kp L [(0, v), (9, .pointer (some ⟨bs, 0, none⟩)), (10, .int .i64 i), (11, .int .i64 j), (12, .int .i64 k)]) ?_ ?_
      · refine Wk.cond rfl (fun hc => ?_) (fun hc => ?_)
        · have h50 : 50 ≤ b - a := by simp at hc; omega
          clear hc
          (repeat (first | refine go ?_ | with_reducible intro _))
          refine Wk.call rfl rfl (Spl.all _) (medianAdj (k := 0) hn (by omega) (by omega) hs (by omega)) rfl rfl rfl ?_
          rintro v' Z' A' hz ⟨x1, k1, rfl, h1, hk1, rfl, rfl⟩
          (repeat (first | refine go ?_ | with_reducible intro _))
          refine Wk.call rfl rfl (Spl.all _) (medianAdj hn (by omega) (by omega) hs (by omega)) rfl rfl rfl ?_
          rintro v' Z' A' hz ⟨x2, k2, rfl, h2, hk2, rfl, rfl⟩
          (repeat (first | refine go ?_ | with_reducible intro _))
          refine Wk.call rfl rfl (Spl.all _) (medianAdj hn (by omega) (by omega) hs (by omega)) rfl rfl rfl ?_
          rintro v' Z' A' hz ⟨x3, k3, rfl, h3, hk3, rfl, rfl⟩
          (repeat (first | refine go ?_ | with_reducible intro _))
          exact Wk.inv ⟨x1, x2, x3, k3, by omega, by omega, by omega, by omega, rfl, rfl, (by repeat (first | exact trivial | refine And.intro rfl ?_ | refine And.intro (kpI rfl (by omega)) ?_))⟩
        · (repeat (first | refine go ?_ | with_reducible intro _))
          exact Wk.inv ⟨a + (b - a) / 4 * 1, a + (b - a) / 4 * 2, a + (b - a) / 4 * 3, 0, by omega, by omega, by omega, by omega, rfl, rfl, (by repeat (first | exact trivial | refine And.intro rfl ?_ | refine And.intro (kpI rfl (by omega)) ?_))⟩
      rintro L Z' A' - ⟨i, j, k, kk, hi, hj, hk1, hkk, rfl, rfl, hk⟩
      refine Wk.kp hk ?_
      clear hk
      (repeat (first | refine go ?_ | with_reducible intro _))
      refine Wk.call rfl rfl (Spl.all _) (median_ hn (by omega) (by omega) (by omega) hs (by omega)) rfl rfl rfl ?_
      rintro v' Z' A' hz ⟨x1, k1, rfl, h1, hk1, rfl, rfl⟩
      (repeat (first | refine go ?_ | with_reducible intro _))
      exact Wk.inv ⟨x1, k1, by omega, by omega, by omega, rfl, rfl, (by repeat (first | exact trivial | refine And.intro rfl ?_ | refine And.intro (kpI rfl (by omega)) ?_))⟩
    · have h8 : ¬ 8 ≤ b - a := by simp at hc; omega
      (repeat (first | refine go ?_ | with_reducible intro _))
      exact Wk.inv ⟨a + (b - a) / 4 * 2, 0, by omega, by omega, by omega, rfl, rfl, (by repeat (first | exact trivial | refine And.intro rfl ?_ | refine And.intro (kpI rfl (by omega)) ?_))⟩
  rintro L Z' A' - ⟨p, k, hp1, hp2, hk0, rfl, rfl, hk⟩
  refine Wk.kp hk ?_
  clear hk
  (repeat (first | refine go ?_ | with_reducible intro _))
  refine Wk.cond rfl (fun hc => ?_) (fun hc => ?_)
  · (repeat (first | refine go ?_ | with_reducible intro _))
    refine Wk.ret ⟨_, Rs.tmp rfl (Rs.tmp rfl Rs.nil), _, (by repeat (first | exact Sub.none _ | exact Sub.refl _ | refine Sub.keep ?_ | refine Sub.drop ?_)), p, _, rfl, hp1, hp2, rfl, rfl⟩
  · (repeat (first | refine go ?_ | with_reducible intro _))
    refine Wk.cond rfl (fun hc => ?_) (fun hc => ?_)
    · (repeat (first | refine go ?_ | with_reducible intro _))
      refine Wk.ret ⟨_, Rs.tmp rfl (Rs.tmp rfl Rs.nil), _, (by repeat (first | exact Sub.none _ | exact Sub.refl _ | refine Sub.keep ?_ | refine Sub.drop ?_)), p, _, rfl, hp1, hp2, rfl, rfl⟩
    · (repeat (first | refine go ?_ | with_reducible intro _))
      refine Wk.ret ⟨_, Rs.tmp rfl (Rs.tmp rfl Rs.nil), _, (by repeat (first | exact Sub.none _ | exact Sub.refl _ | refine Sub.keep ?_ | refine Sub.drop ?_)), p, _, rfl, hp1, hp2, rfl, rfl⟩
end Go.Proofs.J
/- The sort of numbers: the partitions. -/
namespace Go.Proofs.J
open Go.Ev Go Go.Sort
set_option linter.unusedVariables false
set_option maxHeartbeats 4000000
theorem partition_def {d d1 : Array Int} {a b p i j : Nat} (h : d1 = swp d a p) (hi : scanUp (fun x => ltInt x d1[a]!) d1 (b - 1) (a + 1) = i) (hj : scanDown (fun x => !ltInt x d1[a]!) d1 i (b - 1) = j) :
    partition ltInt d a b p = if i > j then (j, true, swp d1 j a) else ((partLoop ltInt a (i + 1) (j - 1) (swp d1 i j)).1, false, swp (partLoop ltInt a (i + 1) (j - 1) (swp d1 i j)).2 (partLoop ltInt a (i + 1) (j - 1) (swp d1 i j)).1 a) := by
  subst h hi hj; rfl
theorem up_go {p : Int → Bool} {d : Array Int} {j i : Nat} (h : (decide (i ≤ j) && p d[i]!) = true) : scanUp p d j i = scanUp p d j (i + 1) := by rw [scanUp, if_pos h]
theorem up_stop {p : Int → Bool} {d : Array Int} {j i : Nat} (h : (decide (i ≤ j) && p d[i]!) = false) : scanUp p d j i = i := by rw [scanUp, if_neg (by rw [h]; simp)]
theorem down_go {p : Int → Bool} {d : Array Int} {j i : Nat} (h : (decide (i ≤ j + 1) && p d[j + 1]!) = true) : scanDown p d i (j + 1) = scanDown p d i j := by rw [scanDown, if_pos h]
theorem down_stop {p : Int → Bool} {d : Array Int} {j i : Nat} (hi : 1 ≤ i) (h : (decide (i ≤ j) && p d[j]!) = false) : scanDown p d i j = j := by
  cases j with
  | zero => rfl
  | succ j => rw [scanDown, if_neg (by rw [h]; simp)]
theorem partition_ {Z : Zone} {v : Value} {b0 n a b p : Nat} {d : Array Int} (hn : d.size = n) (hp1 : a ≤ p) (hp2 : p < b) (hb : b ≤ n) (hs : n ≤ 1000000) :
    Cz M (.func (.func 150) #[] #[]) [v, .int .i64 a, .int .i64 b, .int .i64 p] Z [olp b0 1 v n (ic d)] (fun v' Z' A' => v' = .tuple ⟨[.int .i64 (partition ltInt d a b p).1, .bool (partition ltInt d a b p).2.1]⟩ ∧ Z = Z' ∧ A' = [olp b0 1 v n (ic (partition ltInt d a b p).2.2)]) := by
  obtain ⟨d1, hd1⟩ : ∃ d1, d1 = swp d a p := ⟨_, rfl⟩
  have hs1 : d1.size = n := by rw [hd1, Go.Sort.swp_size]; exact hn
  refine Cz.fn (f := Tryz.f150) (by kernel_rfl) rfl rfl rfl _ rfl ?_
  (repeat (first | refine go ?_ | with_reducible intro _))
  refine Wk.drawr (ms := [0, 0, 0, 0, 0, 0, 48, 112, 0, 0, 768, 1792, 4083, 8179, 16383, 32767]) (l := [0, 1, 2, 3, 4, 5, 6, 7, 8, 9, 10, 11, 12, 13, 14, 15]) (by kernel_rfl) (by kernel_rfl) (by kernel_rfl) rfl ?_
  (repeat (first | refine go ?_ | with_reducible intro _))
  refine Wk.iaP (p) rfl rfl rfl rfl (by repeat (first | exact Rem.head | apply Rem.tail)) rfl rfl (by omega) (by omega) ?_
  refine Wk.loadOlp (cs := [_]) rfl rfl (by repeat (first | exact Rem.head | apply Rem.tail)) (Go.Proofs.J.ic_get (by first | omega | (simp only [Array.size_setIfInBounds, Go.Proofs.J.swp_size]; omega))) rfl rfl rfl ?_
  (repeat (first | refine go ?_ | with_reducible intro _))
  refine Wk.iaP (a) rfl rfl rfl rfl (by repeat (first | exact Rem.head | apply Rem.tail)) rfl rfl (by omega) (by omega) ?_
  refine Wk.loadOlp (cs := [_]) rfl rfl (by repeat (first | exact Rem.head | apply Rem.tail)) (Go.Proofs.J.ic_get (by first | omega | (simp only [Array.size_setIfInBounds, Go.Proofs.J.swp_size]; omega))) rfl rfl rfl ?_
  (repeat (first | refine go ?_ | with_reducible intro _))
  refine Wk.iaP (a) rfl rfl rfl rfl (by repeat (first | exact Rem.head | apply Rem.tail)) rfl rfl (by omega) (by omega) ?_
  refine Wk.storeOlp rfl rfl rfl rfl rfl (by repeat (first | exact Rem.head | apply Rem.tail)) (Go.Proofs.J.ic_set (by first | omega | (simp only [Array.size_setIfInBounds, Go.Proofs.J.swp_size]; omega))) (by kernel_rfl) rfl ?_
  refine Wk.iaP (p) rfl rfl rfl rfl (by repeat (first | exact Rem.head | apply Rem.tail)) rfl rfl (by omega) (by omega) ?_
  refine Wk.storeOlp rfl rfl rfl rfl rfl (by repeat (first | exact Rem.head | apply Rem.tail)) (Go.Proofs.J.ic_set (by first | omega | (simp only [Array.size_setIfInBounds, Go.Proofs.J.swp_size]; omega))) (by kernel_rfl) rfl ?_
  (repeat (first | refine go ?_ | with_reducible intro _))
  refine Wk.loop (fun mm L Z' A' => ∃ i : Nat, a + 1 ≤ i ∧ i ≤ b ∧ mm = b - i ∧ Z = Z' ∧ A' = [olp b0 1 v n (ic d1)] ∧ scanUp (fun x => ltInt x d1[a]!) d1 (b - 1) i = scanUp (fun x => ltInt x d1[a]!) d1 (b - 1) (a + 1) ∧ Kp L [(0, v), (1, .int .i64 a), (2, .int .i64 b), (10, .int .i64 i), (11, .int .i64 (b - 1 : Nat))]) (b - (a + 1)) ⟨a + 1, Nat.le_refl _, by omega, rfl, rfl, by rw [hd1]; rfl, rfl, (by repeat (first | exact trivial | refine And.intro rfl ?_ | refine And.intro (kpI rfl (by omega)) ?_))⟩ ?_
  rintro mm L Z' A' - ⟨i, hi1, hi2, rfl, rfl, rfl, hf, hk⟩
  refine Wk.kp hk ?_
  clear hk
  (repeat (first | refine go ?_ | with_reducible intro _))
  refine Wk.drawr (ms := [0, 0, 3, 7, 15, 15, 63, 127, 15, 15, 783, 1807, 4095, 8191]) (l := [0, 1, 2, 3, 4, 5, 6, 7, 8, 9, 10, 11, 12, 13]) (by kernel_rfl) (by kernel_rfl) (by kernel_rfl) rfl ?_
  (repeat (first | refine go ?_ | with_reducible intro _))
  refine Wk.cutr (fun L Z' A' => Z = Z' ∧ A' = [olp b0 1 v n (ic d1)] ∧ Kp L [(0, v), (1, .int .i64 a), (2, .int .i64 b), (10, .int .i64 i), (11, .int .i64 (b - 1 : Nat)), (43, .bool (decide (i ≤ b - 1) && ltInt d1[i]! d1[a]!))]) ?_ ?_
  · refine Wk.caser 33 rfl (fun hc => ?_) (fun hc => ?_)
    · have hle : i ≤ b - 1 := by simp at hc; omega
      clear hc
      (repeat (first | refine go ?_ | with_reducible intro _))
      refine Wk.iaP (i) rfl rfl rfl rfl (by repeat (first | exact Rem.head | apply Rem.tail)) rfl rfl (by omega) (by omega) ?_
      refine Wk.loadOlp (cs := [_]) rfl rfl (by repeat (first | exact Rem.head | apply Rem.tail)) (Go.Proofs.J.ic_get (by first | omega | (simp only [Array.size_setIfInBounds, Go.Proofs.J.swp_size]; omega))) rfl rfl rfl ?_
      (repeat (first | refine go ?_ | with_reducible intro _))
      refine Wk.iaP (a) rfl rfl rfl rfl (by repeat (first | exact Rem.head | apply Rem.tail)) rfl rfl (by omega) (by omega) ?_
      refine Wk.loadOlp (cs := [_]) rfl rfl (by repeat (first | exact Rem.head | apply Rem.tail)) (Go.Proofs.J.ic_get (by first | omega | (simp only [Array.size_setIfInBounds, Go.Proofs.J.swp_size]; omega))) rfl rfl rfl ?_
      (repeat (first | refine go ?_ | with_reducible intro _))
      refine Wk.call rfl rfl (Spl.none _) (sLess) (by kernel_rfl) rfl rfl ?_
      rintro v' Z' A' hz ⟨rfl, rfl, rfl⟩
      (repeat (first | refine go ?_ | with_reducible intro _))
      exact Wk.inv ⟨rfl, rfl, rfl, rfl, rfl, rfl, rfl, and_l hle, trivial⟩
    · have hle : ¬ i ≤ b - 1 := by simp at hc; omega
      clear hc
      (repeat (first | refine go ?_ | with_reducible intro _))
      exact Wk.inv ⟨rfl, rfl, rfl, rfl, rfl, rfl, rfl, and_f hle, trivial⟩
  rintro L Z' A' - ⟨rfl, rfl, hk⟩
  refine Wk.kp hk ?_
  clear hk
  refine Wk.cond rfl (fun hc => ?_) (fun hc => ?_)
  · have e1 := up_go (p := fun x => ltInt x d1[a]!) hc
    have : i ≤ b - 1 := by simp at hc; exact hc.1
    (repeat (first | refine go ?_ | with_reducible intro _))
    exact Wk.inv ⟨_, by omega, i + 1, by omega, by omega, rfl, rfl, rfl, by rw [← hf, e1], (by repeat (first | exact trivial | refine And.intro rfl ?_ | refine And.intro (kpI rfl (by omega)) ?_))⟩
  have hI := hf.symm.trans (up_stop (p := fun x => ltInt x d1[a]!) hc)
  clear hf hc
  (repeat (first | refine go ?_ | with_reducible intro _))
  refine Wk.loop (fun mm L Z' A' => ∃ j : Nat, j ≤ b - 1 ∧ i ≤ j + 1 ∧ mm = j ∧ Z = Z' ∧ A' = [olp b0 1 v n (ic d1)] ∧ scanDown (fun x => !ltInt x d1[a]!) d1 i j = scanDown (fun x => !ltInt x d1[a]!) d1 i (b - 1) ∧ Kp L [(0, v), (1, .int .i64 a), (2, .int .i64 b), (10, .int .i64 i), (11, .int .i64 j)]) (b - 1) ⟨b - 1, Nat.le_refl _, by omega, rfl, rfl, rfl, rfl, (by repeat (first | exact trivial | refine And.intro rfl ?_ | refine And.intro (kpI rfl (by omega)) ?_))⟩ ?_
  rintro mm L Z' A' - ⟨j, hj1, hj2, hmm, rfl, rfl, hg, hk⟩
  refine Wk.kp hk ?_
  clear hk
  (repeat (first | refine go ?_ | with_reducible intro _))
  refine Wk.drawr (ms := [0, 0, 3, 7, 15, 15, 63, 127, 15, 15, 783, 1807, 4095, 8191, 16383]) (l := [0, 1, 2, 3, 4, 5, 6, 7, 8, 9, 10, 11, 12, 13, 14]) (by kernel_rfl) (by kernel_rfl) (by kernel_rfl) rfl ?_
  (repeat (first | refine go ?_ | with_reducible intro _))
  refine Wk.cutr (fun L Z' A' => Z = Z' ∧ A' = [olp b0 1 v n (ic d1)] ∧ Kp L [(0, v), (1, .int .i64 a), (2, .int .i64 b), (10, .int .i64 i), (11, .int .i64 j), (60, .bool (decide (i ≤ j) && !ltInt d1[j]! d1[a]!))]) ?_ ?_
  · refine Wk.caser 49 rfl (fun hc => ?_) (fun hc => ?_)
    · have hle : i ≤ j := by simp at hc; omega
      clear hc
      (repeat (first | refine go ?_ | with_reducible intro _))
      refine Wk.iaP (j) rfl rfl rfl rfl (by repeat (first | exact Rem.head | apply Rem.tail)) rfl rfl (by omega) (by omega) ?_
      refine Wk.loadOlp (cs := [_]) rfl rfl (by repeat (first | exact Rem.head | apply Rem.tail)) (Go.Proofs.J.ic_get (by first | omega | (simp only [Array.size_setIfInBounds, Go.Proofs.J.swp_size]; omega))) rfl rfl rfl ?_
      (repeat (first | refine go ?_ | with_reducible intro _))
      refine Wk.iaP (a) rfl rfl rfl rfl (by repeat (first | exact Rem.head | apply Rem.tail)) rfl rfl (by omega) (by omega) ?_
      refine Wk.loadOlp (cs := [_]) rfl rfl (by repeat (first | exact Rem.head | apply Rem.tail)) (Go.Proofs.J.ic_get (by first | omega | (simp only [Array.size_setIfInBounds, Go.Proofs.J.swp_size]; omega))) rfl rfl rfl ?_
      (repeat (first | refine go ?_ | with_reducible intro _))
      refine Wk.call rfl rfl (Spl.none _) (sLess) (by kernel_rfl) rfl rfl ?_
      rintro v' Z' A' hz ⟨rfl, rfl, rfl⟩
      (repeat (first | refine go ?_ | with_reducible intro _))
      exact Wk.inv ⟨rfl, rfl, rfl, rfl, rfl, rfl, rfl, and_l hle, trivial⟩
    · have hle : ¬ i ≤ j := by simp at hc; omega
      clear hc
      (repeat (first | refine go ?_ | with_reducible intro _))
      exact Wk.inv ⟨rfl, rfl, rfl, rfl, rfl, rfl, rfl, and_f hle, trivial⟩
  rintro L Z' A' - ⟨rfl, rfl, hk⟩
  refine Wk.kp hk ?_
  clear hk
  refine Wk.cond rfl (fun hc => ?_) (fun hc => ?_)
  · have : i ≤ j := by simp at hc; exact hc.1
    obtain ⟨q, rfl⟩ : ∃ q, j = q + 1 := ⟨j - 1, by omega⟩
    have e1 := down_go (p := fun x => !ltInt x d1[a]!) hc
    (repeat (first | refine go ?_ | with_reducible intro _))
    exact Wk.inv ⟨_, by omega, q, by omega, by omega, rfl, rfl, rfl, by rw [← hg, e1], (by repeat (first | exact trivial | refine And.intro rfl ?_ | refine And.intro (kpI rfl (by omega)) ?_))⟩
  have hJ := hg.symm.trans (down_stop (p := fun x => !ltInt x d1[a]!) (by omega) hc)
  have hP := partition_def hd1 hI hJ
  clear hg hc hmm
  (repeat (first | refine go ?_ | with_reducible intro _))
  refine Wk.cond rfl (fun hc => ?_) (fun hc => ?_)
  · rw [if_pos (by simp at hc; omega)] at hP
    rw [hP]
    (repeat (first | refine go ?_ | with_reducible intro _))
    refine Wk.drawr (ms := [0, 0, 0, 0, 0, 0, 48, 112, 0, 0, 768, 1792, 4083, 8179, 16383, 32767]) (l := [0, 1, 2, 3, 4, 5, 6, 7, 8, 9, 10, 11, 12, 13, 14, 15]) (by kernel_rfl) (by kernel_rfl) (by kernel_rfl) rfl ?_
    (repeat (first | refine go ?_ | with_reducible intro _))
    refine Wk.iaP (a) rfl rfl rfl rfl (by repeat (first | exact Rem.head | apply Rem.tail)) rfl rfl (by omega) (by omega) ?_
    refine Wk.loadOlp (cs := [_]) rfl rfl (by repeat (first | exact Rem.head | apply Rem.tail)) (Go.Proofs.J.ic_get (by first | omega | (simp only [Array.size_setIfInBounds, Go.Proofs.J.swp_size]; omega))) rfl rfl rfl ?_
    (repeat (first | refine go ?_ | with_reducible intro _))
    refine Wk.iaP (j) rfl rfl rfl rfl (by repeat (first | exact Rem.head | apply Rem.tail)) rfl rfl (by omega) (by omega) ?_
    refine Wk.loadOlp (cs := [_]) rfl rfl (by repeat (first | exact Rem.head | apply Rem.tail)) (Go.Proofs.J.ic_get (by first | omega | (simp only [Array.size_setIfInBounds, Go.Proofs.J.swp_size]; omega))) rfl rfl rfl ?_
    (repeat (first | refine go ?_ | with_reducible intro _))
    refine Wk.iaP (j) rfl rfl rfl rfl (by repeat (first | exact Rem.head | apply Rem.tail)) rfl rfl (by omega) (by omega) ?_
    refine Wk.storeOlp rfl rfl rfl rfl rfl (by repeat (first | exact Rem.head | apply Rem.tail)) (Go.Proofs.J.ic_set (by first | omega | (simp only [Array.size_setIfInBounds, Go.Proofs.J.swp_size]; omega))) (by kernel_rfl) rfl ?_
    refine Wk.iaP (a) rfl rfl rfl rfl (by repeat (first | exact Rem.head | apply Rem.tail)) rfl rfl (by omega) (by omega) ?_
    refine Wk.storeOlp rfl rfl rfl rfl rfl (by repeat (first | exact Rem.head | apply Rem.tail)) (Go.Proofs.J.ic_set (by first | omega | (simp only [Array.size_setIfInBounds, Go.Proofs.J.swp_size]; omega))) (by kernel_rfl) rfl ?_
    (repeat (first | refine go ?_ | with_reducible intro _))
    refine Wk.ret ⟨_, Rs.tmp rfl (Rs.tmp rfl Rs.nil), _, Sub.refl _, rfl, rfl, rfl⟩
  have hij : i ≤ j := by simp at hc; omega
  rw [if_neg (by omega)] at hP
  rw [hP]
  clear hc hI hJ hP
  obtain ⟨q, rfl⟩ : ∃ q, j = q + 1 := ⟨j - 1, by omega⟩
  rw [Nat.add_sub_cancel]
  (repeat (first | refine go ?_ | with_reducible intro _))
  refine Wk.drawr (ms := [0, 0, 0, 0, 0, 0, 48, 112, 0, 0, 768, 1792, 4083, 8179, 16383, 32767]) (l := [0, 1, 2, 3, 4, 5, 6, 7, 8, 9, 10, 11, 12, 13, 14, 15]) (by kernel_rfl) (by kernel_rfl) (by kernel_rfl) rfl ?_
  (repeat (first | refine go ?_ | with_reducible intro _))
  refine Wk.iaP (q + 1) rfl rfl rfl rfl (by repeat (first | exact Rem.head | apply Rem.tail)) rfl rfl (by omega) (by omega) ?_
  refine Wk.loadOlp (cs := [_]) rfl rfl (by repeat (first | exact Rem.head | apply Rem.tail)) (Go.Proofs.J.ic_get (by first | omega | (simp only [Array.size_setIfInBounds, Go.Proofs.J.swp_size]; omega))) rfl rfl rfl ?_
  (repeat (first | refine go ?_ | with_reducible intro _))
  refine Wk.iaP (i) rfl rfl rfl rfl (by repeat (first | exact Rem.head | apply Rem.tail)) rfl rfl (by omega) (by omega) ?_
  refine Wk.loadOlp (cs := [_]) rfl rfl (by repeat (first | exact Rem.head | apply Rem.tail)) (Go.Proofs.J.ic_get (by first | omega | (simp only [Array.size_setIfInBounds, Go.Proofs.J.swp_size]; omega))) rfl rfl rfl ?_
  (repeat (first | refine go ?_ | with_reducible intro _))
  refine Wk.iaP (i) rfl rfl rfl rfl (by repeat (first | exact Rem.head | apply Rem.tail)) rfl rfl (by omega) (by omega) ?_
  refine Wk.storeOlp rfl rfl rfl rfl rfl (by repeat (first | exact Rem.head | apply Rem.tail)) (Go.Proofs.J.ic_set (by first | omega | (simp only [Array.size_setIfInBounds, Go.Proofs.J.swp_size]; omega))) (by kernel_rfl) rfl ?_
  refine Wk.iaP (q + 1) rfl rfl rfl rfl (by repeat (first | exact Rem.head | apply Rem.tail)) rfl rfl (by omega) (by omega) ?_
  refine Wk.storeOlp rfl rfl rfl rfl rfl (by repeat (first | exact Rem.head | apply Rem.tail)) (Go.Proofs.J.ic_set (by first | omega | (simp only [Array.size_setIfInBounds, Go.Proofs.J.swp_size]; omega))) (by kernel_rfl) rfl ?_
  (repeat (first | refine go ?_ | with_reducible intro _))
  refine Wk.loop (fun mm L Z' A' => ∃ (i' j' : Nat) (e : Array Int), a + 1 ≤ i' ∧ i' ≤ j' + 2 ∧ j' < b ∧ mm = b + 2 - i' ∧ Z = Z' ∧ A' = [olp b0 1 v n (ic e)] ∧ e.size = n ∧ partLoop ltInt a i' j' e = partLoop ltInt a (i + 1) q (swp d1 i (q + 1)) ∧ Kp L [(0, v), (1, .int .i64 a), (2, .int .i64 b), (10, .int .i64 i'), (11, .int .i64 j')]) (b + 2 - (i + 1)) ⟨i + 1, q, swp d1 i (q + 1), by omega, by omega, by omega, rfl, rfl, rfl, by rw [Go.Sort.swp_size]; exact hs1, rfl, (by repeat (first | exact trivial | refine And.intro rfl ?_ | refine And.intro (kpI rfl (by omega)) ?_))⟩ ?_
  rintro mm L Z' A' - ⟨i', j', e, hi1', hi2', hj1', rfl, rfl, rfl, he, hR, hk⟩
  refine Wk.kp hk ?_
  clear hk
  rw [partLoop_eq] at hR
  (repeat (first | refine go ?_ | with_reducible intro _))
  refine Wk.loop (fun mm2 L Z' A' => ∃ i2 : Nat, i' ≤ i2 ∧ i2 ≤ max i' (j' + 1) ∧ mm2 = b + 2 - i2 ∧ Z = Z' ∧ A' = [olp b0 1 v n (ic e)] ∧ scanUp (fun x => ltInt x e[a]!) e j' i2 = scanUp (fun x => ltInt x e[a]!) e j' i' ∧ Kp L [(0, v), (1, .int .i64 a), (2, .int .i64 b), (10, .int .i64 i2), (11, .int .i64 j')]) (b + 2 - i') ⟨i', Nat.le_refl _, by omega, rfl, rfl, rfl, rfl, (by repeat (first | exact trivial | refine And.intro rfl ?_ | refine And.intro (kpI rfl (by omega)) ?_))⟩ ?_
  rintro mm2 L Z' A' - ⟨i2, hi3, hi4, rfl, rfl, rfl, hf, hk⟩
  refine Wk.kp hk ?_
  clear hk
  (repeat (first | refine go ?_ | with_reducible intro _))
  refine Wk.drawr (ms := [0, 0, 3, 7, 15, 15, 63, 127, 15, 15, 783, 1807, 4095, 8191]) (l := [0, 1, 2, 3, 4, 5, 6, 7, 8, 9, 10, 11, 12, 13]) (by kernel_rfl) (by kernel_rfl) (by kernel_rfl) rfl ?_
  (repeat (first | refine go ?_ | with_reducible intro _))
  refine Wk.cutr (fun L Z' A' => Z = Z' ∧ A' = [olp b0 1 v n (ic e)] ∧ Kp L [(0, v), (1, .int .i64 a), (2, .int .i64 b), (10, .int .i64 i2), (11, .int .i64 j'), (112, .bool (decide (i2 ≤ j') && ltInt e[i2]! e[a]!))]) ?_ ?_
  · refine Wk.caser 102 rfl (fun hc => ?_) (fun hc => ?_)
    · have hle : i2 ≤ j' := by simp at hc; omega
      clear hc
      (repeat (first | refine go ?_ | with_reducible intro _))
      refine Wk.iaP (i2) rfl rfl rfl rfl (by repeat (first | exact Rem.head | apply Rem.tail)) rfl rfl (by omega) (by omega) ?_
      refine Wk.loadOlp (cs := [_]) rfl rfl (by repeat (first | exact Rem.head | apply Rem.tail)) (Go.Proofs.J.ic_get (by first | omega | (simp only [Array.size_setIfInBounds, Go.Proofs.J.swp_size]; omega))) rfl rfl rfl ?_
      (repeat (first | refine go ?_ | with_reducible intro _))
      refine Wk.iaP (a) rfl rfl rfl rfl (by repeat (first | exact Rem.head | apply Rem.tail)) rfl rfl (by omega) (by omega) ?_
      refine Wk.loadOlp (cs := [_]) rfl rfl (by repeat (first | exact Rem.head | apply Rem.tail)) (Go.Proofs.J.ic_get (by first | omega | (simp only [Array.size_setIfInBounds, Go.Proofs.J.swp_size]; omega))) rfl rfl rfl ?_
      (repeat (first | refine go ?_ | with_reducible intro _))
      refine Wk.call rfl rfl (Spl.none _) (sLess) (by kernel_rfl) rfl rfl ?_
      rintro v' Z' A' hz ⟨rfl, rfl, rfl⟩
      (repeat (first | refine go ?_ | with_reducible intro _))
      exact Wk.inv ⟨rfl, rfl, rfl, rfl, rfl, rfl, rfl, and_l hle, trivial⟩
    · have hle : ¬ i2 ≤ j' := by simp at hc; omega
      clear hc
      (repeat (first | refine go ?_ | with_reducible intro _))
      exact Wk.inv ⟨rfl, rfl, rfl, rfl, rfl, rfl, rfl, and_f hle, trivial⟩
  rintro L Z' A' - ⟨rfl, rfl, hk⟩
  refine Wk.kp hk ?_
  clear hk
  refine Wk.cond rfl (fun hc => ?_) (fun hc => ?_)
  · have e1 := up_go (p := fun x => ltInt x e[a]!) hc
    have : i2 ≤ j' := by simp at hc; exact hc.1
    (repeat (first | refine go ?_ | with_reducible intro _))
    exact Wk.inv ⟨_, by omega, i2 + 1, by omega, by omega, rfl, rfl, rfl, by rw [← hf, e1], (by repeat (first | exact trivial | refine And.intro rfl ?_ | refine And.intro (kpI rfl (by omega)) ?_))⟩
  have hI := hf.symm.trans (up_stop (p := fun x => ltInt x e[a]!) hc)
  clear hf hc
  rw [hI] at hR
  (repeat (first | refine go ?_ | with_reducible intro _))
  refine Wk.loop (fun mm2 L Z' A' => ∃ j2 : Nat, j2 ≤ j' ∧ (i2 ≤ j2 + 1 ∨ j2 = j') ∧ mm2 = j2 ∧ Z = Z' ∧ A' = [olp b0 1 v n (ic e)] ∧ scanDown (fun x => !ltInt x e[a]!) e i2 j2 = scanDown (fun x => !ltInt x e[a]!) e i2 j' ∧ Kp L [(0, v), (1, .int .i64 a), (2, .int .i64 b), (10, .int .i64 i2), (11, .int .i64 j2)]) j' ⟨j', Nat.le_refl _, .inr rfl, rfl, rfl, rfl, rfl, (by repeat (first | exact trivial | refine And.intro rfl ?_ | refine And.intro (kpI rfl (by omega)) ?_))⟩ ?_
  rintro mm2 L Z' A' - ⟨j2, hj3, hj4, hmm, rfl, rfl, hg, hk⟩
  refine Wk.kp hk ?_
  clear hk
  (repeat (first | refine go ?_ | with_reducible intro _))
  refine Wk.drawr (ms := [0, 0, 3, 7, 15, 15, 63, 127, 15, 15, 783, 1807, 4095, 8191, 16383]) (l := [0, 1, 2, 3, 4, 5, 6, 7, 8, 9, 10, 11, 12, 13, 14]) (by kernel_rfl) (by kernel_rfl) (by kernel_rfl) rfl ?_
  (repeat (first | refine go ?_ | with_reducible intro _))
  refine Wk.cutr (fun L Z' A' => Z = Z' ∧ A' = [olp b0 1 v n (ic e)] ∧ Kp L [(0, v), (1, .int .i64 a), (2, .int .i64 b), (10, .int .i64 i2), (11, .int .i64 j2), (129, .bool (decide (i2 ≤ j2) && !ltInt e[j2]! e[a]!))]) ?_ ?_
  · refine Wk.caser 118 rfl (fun hc => ?_) (fun hc => ?_)
    · have hle : i2 ≤ j2 := by simp at hc; omega
      clear hc
      (repeat (first | refine go ?_ | with_reducible intro _))
      refine Wk.iaP (j2) rfl rfl rfl rfl (by repeat (first | exact Rem.head | apply Rem.tail)) rfl rfl (by omega) (by omega) ?_
      refine Wk.loadOlp (cs := [_]) rfl rfl (by repeat (first | exact Rem.head | apply Rem.tail)) (Go.Proofs.J.ic_get (by first | omega | (simp only [Array.size_setIfInBounds, Go.Proofs.J.swp_size]; omega))) rfl rfl rfl ?_
      (repeat (first | refine go ?_ | with_reducible intro _))
      refine Wk.iaP (a) rfl rfl rfl rfl (by repeat (first | exact Rem.head | apply Rem.tail)) rfl rfl (by omega) (by omega) ?_
      refine Wk.loadOlp (cs := [_]) rfl rfl (by repeat (first | exact Rem.head | apply Rem.tail)) (Go.Proofs.J.ic_get (by first | omega | (simp only [Array.size_setIfInBounds, Go.Proofs.J.swp_size]; omega))) rfl rfl rfl ?_
      (repeat (first | refine go ?_ | with_reducible intro _))
      refine Wk.call rfl rfl (Spl.none _) (sLess) (by kernel_rfl) rfl rfl ?_
      rintro v' Z' A' hz ⟨rfl, rfl, rfl⟩
      (repeat (first | refine go ?_ | with_reducible intro _))
      exact Wk.inv ⟨rfl, rfl, rfl, rfl, rfl, rfl, rfl, and_l hle, trivial⟩
    · have hle : ¬ i2 ≤ j2 := by simp at hc; omega
      clear hc
      (repeat (first | refine go ?_ | with_reducible intro _))
      exact Wk.inv ⟨rfl, rfl, rfl, rfl, rfl, rfl, rfl, and_f hle, trivial⟩
  rintro L Z' A' - ⟨rfl, rfl, hk⟩
  refine Wk.kp hk ?_
  clear hk
  refine Wk.cond rfl (fun hc => ?_) (fun hc => ?_)
  · have : i2 ≤ j2 := by simp at hc; exact hc.1
    obtain ⟨r, rfl⟩ : ∃ r, j2 = r + 1 := ⟨j2 - 1, by omega⟩
    have e1 := down_go (p := fun x => !ltInt x e[a]!) hc
    (repeat (first | refine go ?_ | with_reducible intro _))
    exact Wk.inv ⟨_, by omega, r, by omega, by omega, rfl, rfl, rfl, by rw [← hg, e1], (by repeat (first | exact trivial | refine And.intro rfl ?_ | refine And.intro (kpI rfl (by omega)) ?_))⟩
  have hJ := hg.symm.trans (down_stop (p := fun x => !ltInt x e[a]!) (by omega) hc)
  clear hg hc hmm
  rw [hJ] at hR
  (repeat (first | refine go ?_ | with_reducible intro _))
  refine Wk.cond rfl (fun hc => ?_) (fun hc => ?_)
  · rw [if_pos (by simp at hc; omega)] at hR
    rw [← hR]
    (repeat (first | refine go ?_ | with_reducible intro _))
    refine Wk.drawr (ms := [0, 0, 0, 0, 0, 0, 48, 112, 0, 0, 768, 1792, 4083, 8179, 16383, 32767]) (l := [0, 1, 2, 3, 4, 5, 6, 7, 8, 9, 10, 11, 12, 13, 14, 15]) (by kernel_rfl) (by kernel_rfl) (by kernel_rfl) rfl ?_
    (repeat (first | refine go ?_ | with_reducible intro _))
    refine Wk.iaP (a) rfl rfl rfl rfl (by repeat (first | exact Rem.head | apply Rem.tail)) rfl rfl (by omega) (by omega) ?_
    refine Wk.loadOlp (cs := [_]) rfl rfl (by repeat (first | exact Rem.head | apply Rem.tail)) (Go.Proofs.J.ic_get (by first | omega | (simp only [Array.size_setIfInBounds, Go.Proofs.J.swp_size]; omega))) rfl rfl rfl ?_
    (repeat (first | refine go ?_ | with_reducible intro _))
    refine Wk.iaP (j2) rfl rfl rfl rfl (by repeat (first | exact Rem.head | apply Rem.tail)) rfl rfl (by omega) (by omega) ?_
    refine Wk.loadOlp (cs := [_]) rfl rfl (by repeat (first | exact Rem.head | apply Rem.tail)) (Go.Proofs.J.ic_get (by first | omega | (simp only [Array.size_setIfInBounds, Go.Proofs.J.swp_size]; omega))) rfl rfl rfl ?_
    (repeat (first | refine go ?_ | with_reducible intro _))
    refine Wk.iaP (j2) rfl rfl rfl rfl (by repeat (first | exact Rem.head | apply Rem.tail)) rfl rfl (by omega) (by omega) ?_
    refine Wk.storeOlp rfl rfl rfl rfl rfl (by repeat (first | exact Rem.head | apply Rem.tail)) (Go.Proofs.J.ic_set (by first | omega | (simp only [Array.size_setIfInBounds, Go.Proofs.J.swp_size]; omega))) (by kernel_rfl) rfl ?_
    refine Wk.iaP (a) rfl rfl rfl rfl (by repeat (first | exact Rem.head | apply Rem.tail)) rfl rfl (by omega) (by omega) ?_
    refine Wk.storeOlp rfl rfl rfl rfl rfl (by repeat (first | exact Rem.head | apply Rem.tail)) (Go.Proofs.J.ic_set (by first | omega | (simp only [Array.size_setIfInBounds, Go.Proofs.J.swp_size]; omega))) (by kernel_rfl) rfl ?_
    (repeat (first | refine go ?_ | with_reducible intro _))
    refine Wk.ret ⟨_, Rs.tmp rfl (Rs.tmp rfl Rs.nil), _, Sub.refl _, rfl, rfl, rfl⟩
  have hij2 : i2 ≤ j2 := by simp at hc; omega
  rw [if_neg (by omega)] at hR
  clear hc
  obtain ⟨r, rfl⟩ : ∃ r, j2 = r + 1 := ⟨j2 - 1, by omega⟩
  rw [Nat.add_sub_cancel] at hR
  (repeat (first | refine go ?_ | with_reducible intro _))
  refine Wk.drawr (ms := [0, 0, 0, 0, 0, 0, 48, 112, 0, 0, 768, 1792, 4083, 8179, 16383, 32767]) (l := [0, 1, 2, 3, 4, 5, 6, 7, 8, 9, 10, 11, 12, 13, 14, 15]) (by kernel_rfl) (by kernel_rfl) (by kernel_rfl) rfl ?_
  (repeat (first | refine go ?_ | with_reducible intro _))
  refine Wk.iaP (r + 1) rfl rfl rfl rfl (by repeat (first | exact Rem.head | apply Rem.tail)) rfl rfl (by omega) (by omega) ?_
  refine Wk.loadOlp (cs := [_]) rfl rfl (by repeat (first | exact Rem.head | apply Rem.tail)) (Go.Proofs.J.ic_get (by first | omega | (simp only [Array.size_setIfInBounds, Go.Proofs.J.swp_size]; omega))) rfl rfl rfl ?_
  (repeat (first | refine go ?_ | with_reducible intro _))
  refine Wk.iaP (i2) rfl rfl rfl rfl (by repeat (first | exact Rem.head | apply Rem.tail)) rfl rfl (by omega) (by omega) ?_
  refine Wk.loadOlp (cs := [_]) rfl rfl (by repeat (first | exact Rem.head | apply Rem.tail)) (Go.Proofs.J.ic_get (by first | omega | (simp only [Array.size_setIfInBounds, Go.Proofs.J.swp_size]; omega))) rfl rfl rfl ?_
  (repeat (first | refine go ?_ | with_reducible intro _))
  refine Wk.iaP (i2) rfl rfl rfl rfl (by repeat (first | exact Rem.head | apply Rem.tail)) rfl rfl (by omega) (by omega) ?_
  refine Wk.storeOlp rfl rfl rfl rfl rfl (by repeat (first | exact Rem.head | apply Rem.tail)) (Go.Proofs.J.ic_set (by first | omega | (simp only [Array.size_setIfInBounds, Go.Proofs.J.swp_size]; omega))) (by kernel_rfl) rfl ?_
  refine Wk.iaP (r + 1) rfl rfl rfl rfl (by repeat (first | exact Rem.head | apply Rem.tail)) rfl rfl (by omega) (by omega) ?_
  refine Wk.storeOlp rfl rfl rfl rfl rfl (by repeat (first | exact Rem.head | apply Rem.tail)) (Go.Proofs.J.ic_set (by first | omega | (simp only [Array.size_setIfInBounds, Go.Proofs.J.swp_size]; omega))) (by kernel_rfl) rfl ?_
  (repeat (first | refine go ?_ | with_reducible intro _))
  exact Wk.inv ⟨_, by omega, i2 + 1, r, swp e i2 (r + 1), by omega, by omega, by omega, rfl, rfl, rfl, by rw [Go.Sort.swp_size]; exact he, hR, (by repeat (first | exact trivial | refine And.intro rfl ?_ | refine And.intro (kpI rfl (by omega)) ?_))⟩
end Go.Proofs.J
/- The sort of numbers: the other partition, and the sort that gives up. -/
namespace Go.Proofs.J
open Go.Ev Go Go.Sort
set_option linter.unusedVariables false
set_option maxHeartbeats 4000000
theorem partitionEq_ {Z : Zone} {v : Value} {b0 n a b p : Nat} {d : Array Int} (hn : d.size = n) (hp1 : a ≤ p) (hp2 : p < b) (hb : b ≤ n) (hs : n ≤ 1000000) :
    Cz M (.func (.func 149) #[] #[]) [v, .int .i64 a, .int .i64 b, .int .i64 p] Z [olp b0 1 v n (ic d)] (fun v' Z' A' => v' = .int .i64 (partitionEqual ltInt d a b p).1 ∧ Z = Z' ∧ A' = [olp b0 1 v n (ic (partitionEqual ltInt d a b p).2)]) := by
  have hP : partitionEqual ltInt d a b p = partEqLoop ltInt a (a + 1) (b - 1) (swp d a p) := rfl
  rw [hP]
  refine Cz.fn (f := Tryz.f149) (by kernel_rfl) rfl rfl rfl _ rfl ?_
  (repeat (first | refine go ?_ | with_reducible intro _))
  refine Wk.drawr (ms := [0, 0, 0, 0, 0, 0, 48, 112, 0, 0, 768, 1792, 4083, 8179, 16383, 32767]) (l := [0, 1, 2, 3, 4, 5, 6, 7, 8, 9, 10, 11, 12, 13, 14, 15]) (by kernel_rfl) (by kernel_rfl) (by kernel_rfl) rfl ?_
  (repeat (first | refine go ?_ | with_reducible intro _))
  refine Wk.iaP (p) rfl rfl rfl rfl (by repeat (first | exact Rem.head | apply Rem.tail)) rfl rfl (by omega) (by omega) ?_
  refine Wk.loadOlp (cs := [_]) rfl rfl (by repeat (first | exact Rem.head | apply Rem.tail)) (Go.Proofs.J.ic_get (by first | omega | (simp only [Array.size_setIfInBounds, Go.Proofs.J.swp_size]; omega))) rfl rfl rfl ?_
  (repeat (first | refine go ?_ | with_reducible intro _))
  refine Wk.iaP (a) rfl rfl rfl rfl (by repeat (first | exact Rem.head | apply Rem.tail)) rfl rfl (by omega) (by omega) ?_
  refine Wk.loadOlp (cs := [_]) rfl rfl (by repeat (first | exact Rem.head | apply Rem.tail)) (Go.Proofs.J.ic_get (by first | omega | (simp only [Array.size_setIfInBounds, Go.Proofs.J.swp_size]; omega))) rfl rfl rfl ?_
  (repeat (first | refine go ?_ | with_reducible intro _))
  refine Wk.iaP (a) rfl rfl rfl rfl (by repeat (first | exact Rem.head | apply Rem.tail)) rfl rfl (by omega) (by omega) ?_
  refine Wk.storeOlp rfl rfl rfl rfl rfl (by repeat (first | exact Rem.head | apply Rem.tail)) (Go.Proofs.J.ic_set (by first | omega | (simp only [Array.size_setIfInBounds, Go.Proofs.J.swp_size]; omega))) (by kernel_rfl) rfl ?_
  refine Wk.iaP (p) rfl rfl rfl rfl (by repeat (first | exact Rem.head | apply Rem.tail)) rfl rfl (by omega) (by omega) ?_
  refine Wk.storeOlp rfl rfl rfl rfl rfl (by repeat (first | exact Rem.head | apply Rem.tail)) (Go.Proofs.J.ic_set (by first | omega | (simp only [Array.size_setIfInBounds, Go.Proofs.J.swp_size]; omega))) (by kernel_rfl) rfl ?_
  (repeat (first | refine go ?_ | with_reducible intro _))
  refine Wk.loop (fun mm L Z' A' => ∃ (i' j' : Nat) (e : Array Int), a + 1 ≤ i' ∧ i' ≤ j' + 2 ∧ j' < b ∧ mm = b + 2 - i' ∧ Z = Z' ∧ A' = [olp b0 1 v n (ic e)] ∧ e.size = n ∧ partEqLoop ltInt a i' j' e = partEqLoop ltInt a (a + 1) (b - 1) (swp d a p) ∧ Kp L [(0, v), (1, .int .i64 a), (2, .int .i64 b), (9, .int .i64 i'), (10, .int .i64 j')]) (b + 2 - (a + 1)) ⟨a + 1, b - 1, swp d a p, by omega, by omega, by omega, rfl, rfl, rfl, by rw [Go.Sort.swp_size]; exact hn, rfl, (by repeat (first | exact trivial | refine And.intro rfl ?_ | refine And.intro (kpI rfl (by omega)) ?_))⟩ ?_
  rintro mm L Z' A' - ⟨i', j', e, hi1', hi2', hj1', rfl, rfl, rfl, he, hR, hk⟩
  refine Wk.kp hk ?_
  clear hk
  rw [partEqLoop_eq] at hR
  (repeat (first | refine go ?_ | with_reducible intro _))
  refine Wk.loop (fun mm2 L Z' A' => ∃ i2 : Nat, i' ≤ i2 ∧ i2 ≤ max i' (j' + 1) ∧ mm2 = b + 2 - i2 ∧ Z = Z' ∧ A' = [olp b0 1 v n (ic e)] ∧ scanUp (fun x => !ltInt e[a]! x) e j' i2 = scanUp (fun x => !ltInt e[a]! x) e j' i' ∧ Kp L [(0, v), (1, .int .i64 a), (2, .int .i64 b), (9, .int .i64 i2), (10, .int .i64 j')]) (b + 2 - i') ⟨i', Nat.le_refl _, by omega, rfl, rfl, rfl, rfl, (by repeat (first | exact trivial | refine And.intro rfl ?_ | refine And.intro (kpI rfl (by omega)) ?_))⟩ ?_
  rintro mm2 L Z' A' - ⟨i2, hi3, hi4, rfl, rfl, rfl, hf, hk⟩
  refine Wk.kp hk ?_
  clear hk
  (repeat (first | refine go ?_ | with_reducible intro _))
  refine Wk.drawr (ms := [0, 0, 3, 7, 15, 15, 63, 127, 15, 15, 783, 1807, 4095, 8191, 16383]) (l := [0, 1, 2, 3, 4, 5, 6, 7, 8, 9, 10, 11, 12, 13, 14]) (by kernel_rfl) (by kernel_rfl) (by kernel_rfl) rfl ?_
  (repeat (first | refine go ?_ | with_reducible intro _))
  refine Wk.cutr (fun L Z' A' => Z = Z' ∧ A' = [olp b0 1 v n (ic e)] ∧ Kp L [(0, v), (1, .int .i64 a), (2, .int .i64 b), (9, .int .i64 i2), (10, .int .i64 j'), (43, .bool (decide (i2 ≤ j') && !ltInt e[a]! e[i2]!))]) ?_ ?_
  · refine Wk.caser 32 rfl (fun hc => ?_) (fun hc => ?_)
    · have hle : i2 ≤ j' := by simp at hc; omega
      clear hc
      (repeat (first | refine go ?_ | with_reducible intro _))
      refine Wk.iaP (a) rfl rfl rfl rfl (by repeat (first | exact Rem.head | apply Rem.tail)) rfl rfl (by omega) (by omega) ?_
      refine Wk.loadOlp (cs := [_]) rfl rfl (by repeat (first | exact Rem.head | apply Rem.tail)) (Go.Proofs.J.ic_get (by first | omega | (simp only [Array.size_setIfInBounds, Go.Proofs.J.swp_size]; omega))) rfl rfl rfl ?_
      (repeat (first | refine go ?_ | with_reducible intro _))
      refine Wk.iaP (i2) rfl rfl rfl rfl (by repeat (first | exact Rem.head | apply Rem.tail)) rfl rfl (by omega) (by omega) ?_
      refine Wk.loadOlp (cs := [_]) rfl rfl (by repeat (first | exact Rem.head | apply Rem.tail)) (Go.Proofs.J.ic_get (by first | omega | (simp only [Array.size_setIfInBounds, Go.Proofs.J.swp_size]; omega))) rfl rfl rfl ?_
      (repeat (first | refine go ?_ | with_reducible intro _))
      refine Wk.call rfl rfl (Spl.none _) (sLess) (by kernel_rfl) rfl rfl ?_
      rintro v' Z' A' hz ⟨rfl, rfl, rfl⟩
      (repeat (first | refine go ?_ | with_reducible intro _))
      exact Wk.inv ⟨rfl, rfl, rfl, rfl, rfl, rfl, rfl, and_l hle, trivial⟩
    · have hle : ¬ i2 ≤ j' := by simp at hc; omega
      clear hc
      (repeat (first | refine go ?_ | with_reducible intro _))
      exact Wk.inv ⟨rfl, rfl, rfl, rfl, rfl, rfl, rfl, and_f hle, trivial⟩
  rintro L Z' A' - ⟨rfl, rfl, hk⟩
  refine Wk.kp hk ?_
  clear hk
  refine Wk.cond rfl (fun hc => ?_) (fun hc => ?_)
  · have e1 := up_go (p := fun x => !ltInt e[a]! x) hc
    have : i2 ≤ j' := by simp at hc; exact hc.1
    (repeat (first | refine go ?_ | with_reducible intro _))
    exact Wk.inv ⟨_, by omega, i2 + 1, by omega, by omega, rfl, rfl, rfl, by rw [← hf, e1], (by repeat (first | exact trivial | refine And.intro rfl ?_ | refine And.intro (kpI rfl (by omega)) ?_))⟩
  have hI := hf.symm.trans (up_stop (p := fun x => !ltInt e[a]! x) hc)
  clear hf hc
  rw [hI] at hR
  (repeat (first | refine go ?_ | with_reducible intro _))
  refine Wk.loop (fun mm2 L Z' A' => ∃ j2 : Nat, j2 ≤ j' ∧ (i2 ≤ j2 + 1 ∨ j2 = j') ∧ mm2 = j2 ∧ Z = Z' ∧ A' = [olp b0 1 v n (ic e)] ∧ scanDown (fun x => ltInt e[a]! x) e i2 j2 = scanDown (fun x => ltInt e[a]! x) e i2 j' ∧ Kp L [(0, v), (1, .int .i64 a), (2, .int .i64 b), (9, .int .i64 i2), (10, .int .i64 j2)]) j' ⟨j', Nat.le_refl _, .inr rfl, rfl, rfl, rfl, rfl, (by repeat (first | exact trivial | refine And.intro rfl ?_ | refine And.intro (kpI rfl (by omega)) ?_))⟩ ?_
  rintro mm2 L Z' A' - ⟨j2, hj3, hj4, hmm, rfl, rfl, hg, hk⟩
  refine Wk.kp hk ?_
  clear hk
  (repeat (first | refine go ?_ | with_reducible intro _))
  refine Wk.drawr (ms := [0, 0, 3, 7, 15, 15, 63, 127, 15, 15, 783, 1807, 4095, 8191]) (l := [0, 1, 2, 3, 4, 5, 6, 7, 8, 9, 10, 11, 12, 13]) (by kernel_rfl) (by kernel_rfl) (by kernel_rfl) rfl ?_
  (repeat (first | refine go ?_ | with_reducible intro _))
  refine Wk.cutr (fun L Z' A' => Z = Z' ∧ A' = [olp b0 1 v n (ic e)] ∧ Kp L [(0, v), (1, .int .i64 a), (2, .int .i64 b), (9, .int .i64 i2), (10, .int .i64 j2), (59, .bool (decide (i2 ≤ j2) && ltInt e[a]! e[j2]!))]) ?_ ?_
  · refine Wk.caser 49 rfl (fun hc => ?_) (fun hc => ?_)
    · have hle : i2 ≤ j2 := by simp at hc; omega
      clear hc
      (repeat (first | refine go ?_ | with_reducible intro _))
      refine Wk.iaP (a) rfl rfl rfl rfl (by repeat (first | exact Rem.head | apply Rem.tail)) rfl rfl (by omega) (by omega) ?_
      refine Wk.loadOlp (cs := [_]) rfl rfl (by repeat (first | exact Rem.head | apply Rem.tail)) (Go.Proofs.J.ic_get (by first | omega | (simp only [Array.size_setIfInBounds, Go.Proofs.J.swp_size]; omega))) rfl rfl rfl ?_
      (repeat (first | refine go ?_ | with_reducible intro _))
      refine Wk.iaP (j2) rfl rfl rfl rfl (by repeat (first | exact Rem.head | apply Rem.tail)) rfl rfl (by omega) (by omega) ?_
      refine Wk.loadOlp (cs := [_]) rfl rfl (by repeat (first | exact Rem.head | apply Rem.tail)) (Go.Proofs.J.ic_get (by first | omega | (simp only [Array.size_setIfInBounds, Go.Proofs.J.swp_size]; omega))) rfl rfl rfl ?_
      (repeat (first | refine go ?_ | with_reducible intro _))
      refine Wk.call rfl rfl (Spl.none _) (sLess) (by kernel_rfl) rfl rfl ?_
      rintro v' Z' A' hz ⟨rfl, rfl, rfl⟩
      (repeat (first | refine go ?_ | with_reducible intro _))
      exact Wk.inv ⟨rfl, rfl, rfl, rfl, rfl, rfl, rfl, and_l hle, trivial⟩
    · have hle : ¬ i2 ≤ j2 := by simp at hc; omega
      clear hc
      (repeat (first | refine go ?_ | with_reducible intro _))
      exact Wk.inv ⟨rfl, rfl, rfl, rfl, rfl, rfl, rfl, and_f hle, trivial⟩
  rintro L Z' A' - ⟨rfl, rfl, hk⟩
  refine Wk.kp hk ?_
  clear hk
  refine Wk.cond rfl (fun hc => ?_) (fun hc => ?_)
  · have : i2 ≤ j2 := by simp at hc; exact hc.1
    obtain ⟨r, rfl⟩ : ∃ r, j2 = r + 1 := ⟨j2 - 1, by omega⟩
    have e1 := down_go (p := fun x => ltInt e[a]! x) hc
    (repeat (first | refine go ?_ | with_reducible intro _))
    exact Wk.inv ⟨_, by omega, r, by omega, by omega, rfl, rfl, rfl, by rw [← hg, e1], (by repeat (first | exact trivial | refine And.intro rfl ?_ | refine And.intro (kpI rfl (by omega)) ?_))⟩
  have hJ := hg.symm.trans (down_stop (p := fun x => ltInt e[a]! x) (by omega) hc)
  clear hg hc hmm
  rw [hJ] at hR
  (repeat (first | refine go ?_ | with_reducible intro _))
  refine Wk.cond rfl (fun hc => ?_) (fun hc => ?_)
  · rw [if_pos (by simp at hc; omega)] at hR
    rw [← hR]
    (repeat (first | refine go ?_ | with_reducible intro _))
    refine Wk.ret ⟨_, Rs.tmp rfl Rs.nil, _, Sub.refl _, rfl, rfl, rfl⟩
  have hij2 : i2 ≤ j2 := by simp at hc; omega
  rw [if_neg (by omega)] at hR
  clear hc
  obtain ⟨r, rfl⟩ : ∃ r, j2 = r + 1 := ⟨j2 - 1, by omega⟩
  rw [Nat.add_sub_cancel] at hR
  (repeat (first | refine go ?_ | with_reducible intro _))
  refine Wk.drawr (ms := [0, 0, 0, 0, 0, 0, 48, 112, 0, 0, 768, 1792, 4083, 8179, 16383, 32767]) (l := [0, 1, 2, 3, 4, 5, 6, 7, 8, 9, 10, 11, 12, 13, 14, 15]) (by kernel_rfl) (by kernel_rfl) (by kernel_rfl) rfl ?_
  (repeat (first | refine go ?_ | with_reducible intro _))
  refine Wk.iaP (r + 1) rfl rfl rfl rfl (by repeat (first | exact Rem.head | apply Rem.tail)) rfl rfl (by omega) (by omega) ?_
  refine Wk.loadOlp (cs := [_]) rfl rfl (by repeat (first | exact Rem.head | apply Rem.tail)) (Go.Proofs.J.ic_get (by first | omega | (simp only [Array.size_setIfInBounds, Go.Proofs.J.swp_size]; omega))) rfl rfl rfl ?_
  (repeat (first | refine go ?_ | with_reducible intro _))
  refine Wk.iaP (i2) rfl rfl rfl rfl (by repeat (first | exact Rem.head | apply Rem.tail)) rfl rfl (by omega) (by omega) ?_
  refine Wk.loadOlp (cs := [_]) rfl rfl (by repeat (first | exact Rem.head | apply Rem.tail)) (Go.Proofs.J.ic_get (by first | omega | (simp only [Array.size_setIfInBounds, Go.Proofs.J.swp_size]; omega))) rfl rfl rfl ?_
  (repeat (first | refine go ?_ | with_reducible intro _))
  refine Wk.iaP (i2) rfl rfl rfl rfl (by repeat (first | exact Rem.head | apply Rem.tail)) rfl rfl (by omega) (by omega) ?_
  refine Wk.storeOlp rfl rfl rfl rfl rfl (by repeat (first | exact Rem.head | apply Rem.tail)) (Go.Proofs.J.ic_set (by first | omega | (simp only [Array.size_setIfInBounds, Go.Proofs.J.swp_size]; omega))) (by kernel_rfl) rfl ?_
  refine Wk.iaP (r + 1) rfl rfl rfl rfl (by repeat (first | exact Rem.head | apply Rem.tail)) rfl rfl (by omega) (by omega) ?_
  refine Wk.storeOlp rfl rfl rfl rfl rfl (by repeat (first | exact Rem.head | apply Rem.tail)) (Go.Proofs.J.ic_set (by first | omega | (simp only [Array.size_setIfInBounds, Go.Proofs.J.swp_size]; omega))) (by kernel_rfl) rfl ?_
  (repeat (first | refine go ?_ | with_reducible intro _))
  exact Wk.inv ⟨_, by omega, i2 + 1, r, swp e i2 (r + 1), by omega, by omega, by omega, rfl, rfl, rfl, by rw [Go.Sort.swp_size]; exact he, hR, (by repeat (first | exact trivial | refine And.intro rfl ?_ | refine And.intro (kpI rfl (by omega)) ?_))⟩
theorem sorted_go {d : Array Int} {b i : Nat} (h : (decide (i < b) && !ltInt d[i]! d[i - 1]!) = true) : scanSorted ltInt d b i = scanSorted ltInt d b (i + 1) := by rw [scanSorted, if_pos h]
theorem sorted_stop {d : Array Int} {b i : Nat} (h : (decide (i < b) && !ltInt d[i]! d[i - 1]!) = false) : scanSorted ltInt d b i = i := by rw [scanSorted, if_neg (by rw [h]; simp)]
theorem shiftDown_size : ∀ {j : Nat} {d : Array Int}, (shiftDown ltInt j d).size = d.size
  | 0, d => rfl
  | j + 1, d => by
    rw [shiftDown]
    split
    · rfl
    · rw [shiftDown_size, Go.Sort.swp_size]
theorem shiftUp_size : ∀ (k : Nat) {b j : Nat} {d : Array Int}, b - j ≤ k → (shiftUp ltInt b j d).size = d.size
  | 0, b, j, d, h => by rw [shiftUp, if_neg (by omega)]
  | k + 1, b, j, d, h => by
    rw [shiftUp]
    split
    · split
      · rfl
      · rw [shiftUp_size k (by omega), Go.Sort.swp_size]
    · rfl
theorem partialIns_ {Z : Zone} {v : Value} {b0 n a b : Nat} {d : Array Int} (hn : d.size = n) (hab : a < b) (hb : b ≤ n) (hs : n ≤ 1000000) :
    Cz M (.func (.func 147) #[] #[]) [v, .int .i64 a, .int .i64 b] Z [olp b0 1 v n (ic d)] (fun v' Z' A' => v' = .bool (partialInsertionSort ltInt d a b).2 ∧ Z = Z' ∧ A' = [olp b0 1 v n (ic (partialInsertionSort ltInt d a b).1)]) := by
  have hP : partialInsertionSort ltInt d a b = partialIns ltInt a b 5 (a + 1) d := rfl
  rw [hP]
  refine Cz.fn (f := Tryz.f147) (by kernel_rfl) rfl rfl rfl _ rfl ?_
  (repeat (first | refine go ?_ | with_reducible intro _))
  refine Wk.loop (fun mm L Z' A' => ∃ (s i : Nat) (e : Array Int), s ≤ 5 ∧ a + 1 ≤ i ∧ i ≤ b ∧ mm = 5 - s ∧ Z = Z' ∧ A' = [olp b0 1 v n (ic e)] ∧ e.size = n ∧ partialIns ltInt a b (5 - s) i e = partialIns ltInt a b 5 (a + 1) d ∧ Kp L [(0, v), (1, .int .i64 a), (2, .int .i64 b), (7, .int .i64 i), (8, .int .i64 s)]) 5 ⟨0, a + 1, d, by omega, Nat.le_refl _, by omega, rfl, rfl, rfl, hn, rfl, (by repeat (first | exact trivial | refine And.intro rfl ?_ | refine And.intro (kpI rfl (by omega)) ?_))⟩ ?_
  rintro mm L Z' A' - ⟨s, i, e, hs5, hi1, hi2, rfl, rfl, rfl, he, hR, hk⟩
  refine Wk.kp hk ?_
  clear hk
  (repeat (first | refine go ?_ | with_reducible intro _))
  refine Wk.cond rfl (fun hc => ?_) (fun hc => ?_)
  rotate_left
  · obtain rfl : s = 5 := by simp at hc; omega
    rw [← hR]
    (repeat (first | refine go ?_ | with_reducible intro _))
    refine Wk.ret ⟨_, Rs.tmp rfl Rs.nil, _, Sub.refl _, rfl, rfl, rfl⟩
  have hs4 : s < 5 := by simp at hc; omega
  clear hc
  obtain ⟨q, hq⟩ : ∃ q, 5 - s = q + 1 := ⟨4 - s, by omega⟩
  rw [hq, partialIns_succ] at hR
  (repeat (first | refine go ?_ | with_reducible intro _))
  refine Wk.loop (fun mm2 L Z' A' => ∃ i2 : Nat, i ≤ i2 ∧ i2 ≤ b ∧ mm2 = b - i2 ∧ Z = Z' ∧ A' = [olp b0 1 v n (ic e)] ∧ scanSorted ltInt e b i2 = scanSorted ltInt e b i ∧ Kp L [(0, v), (1, .int .i64 a), (2, .int .i64 b), (7, .int .i64 i2), (8, .int .i64 s)]) (b - i) ⟨i, Nat.le_refl _, hi2, rfl, rfl, rfl, rfl, (by repeat (first | exact trivial | refine And.intro rfl ?_ | refine And.intro (kpI rfl (by omega)) ?_))⟩ ?_
  rintro mm2 L Z' A' - ⟨i2, hi3, hi4, rfl, rfl, rfl, hf, hk⟩
  refine Wk.kp hk ?_
  clear hk
  (repeat (first | refine go ?_ | with_reducible intro _))
  refine Wk.drawr (ms := [0, 0, 3, 7, 15, 15, 63, 127, 15, 15, 527, 1807, 3855, 8191, 16383, 32767]) (l := [0, 1, 2, 3, 4, 5, 6, 7, 8, 9, 10, 11, 12, 13, 14, 15]) (by kernel_rfl) (by kernel_rfl) (by kernel_rfl) rfl ?_
  (repeat (first | refine go ?_ | with_reducible intro _))
  refine Wk.cutr (fun L Z' A' => Z = Z' ∧ A' = [olp b0 1 v n (ic e)] ∧ Kp L [(0, v), (1, .int .i64 a), (2, .int .i64 b), (7, .int .i64 i2), (8, .int .i64 s), (32, .bool (decide (i2 < b) && !ltInt e[i2]! e[i2 - 1]!))]) ?_ ?_
  · refine Wk.caser 20 rfl (fun hc => ?_) (fun hc => ?_)
    · have hle : (i2 < b) := by simp at hc; omega
      clear hc
      (repeat (first | refine go ?_ | with_reducible intro _))
      refine Wk.iaP (i2) rfl rfl rfl rfl (by repeat (first | exact Rem.head | apply Rem.tail)) rfl rfl (by omega) (by omega) ?_
      refine Wk.loadOlp (cs := [_]) rfl rfl (by repeat (first | exact Rem.head | apply Rem.tail)) (Go.Proofs.J.ic_get (by first | omega | (simp only [Array.size_setIfInBounds, Go.Proofs.J.swp_size]; omega))) rfl rfl rfl ?_
      (repeat (first | refine go ?_ | with_reducible intro _))
      refine Wk.iaP (i2 - 1) rfl rfl rfl rfl (by repeat (first | exact Rem.head | apply Rem.tail)) rfl rfl (by omega) (by omega) ?_
      refine Wk.loadOlp (cs := [_]) rfl rfl (by repeat (first | exact Rem.head | apply Rem.tail)) (Go.Proofs.J.ic_get (by first | omega | (simp only [Array.size_setIfInBounds, Go.Proofs.J.swp_size]; omega))) rfl rfl rfl ?_
      (repeat (first | refine go ?_ | with_reducible intro _))
      refine Wk.call rfl rfl (Spl.none _) (sLess) (by kernel_rfl) rfl rfl ?_
      rintro v' Z' A' hz ⟨rfl, rfl, rfl⟩
      (repeat (first | refine go ?_ | with_reducible intro _))
      exact Wk.inv ⟨rfl, rfl, rfl, rfl, rfl, rfl, rfl, and_l hle, trivial⟩
    · have hle : ¬ (i2 < b) := by simp at hc; omega
      clear hc
      (repeat (first | refine go ?_ | with_reducible intro _))
      exact Wk.inv ⟨rfl, rfl, rfl, rfl, rfl, rfl, rfl, and_f hle, trivial⟩
  rintro L Z' A' - ⟨rfl, rfl, hk⟩
  refine Wk.kp hk ?_
  clear hk
  refine Wk.cond rfl (fun hc => ?_) (fun hc => ?_)
  · have e1 := sorted_go hc
    have : i2 < b := by simp at hc; exact hc.1
    (repeat (first | refine go ?_ | with_reducible intro _))
    exact Wk.inv ⟨_, by omega, i2 + 1, by omega, by omega, rfl, rfl, rfl, by rw [← hf, e1], (by repeat (first | exact trivial | refine And.intro rfl ?_ | refine And.intro (kpI rfl (by omega)) ?_))⟩
  have hI := hf.symm.trans (sorted_stop hc)
  clear hf hc
  rw [hI] at hR
  (repeat (first | refine go ?_ | with_reducible intro _))
  refine Wk.cond rfl (fun hc => ?_) (fun hc => ?_)
  · rw [if_pos (by simp at hc; omega)] at hR
    rw [← hR]
    (repeat (first | refine go ?_ | with_reducible intro _))
    refine Wk.ret ⟨_, Rs.tmp rfl Rs.nil, _, Sub.refl _, rfl, rfl, rfl⟩
  have hib : i2 < b := by simp at hc; omega
  rw [if_neg (by omega)] at hR
  clear hc
  (repeat (first | refine go ?_ | with_reducible intro _))
  refine Wk.cond rfl (fun hc => ?_) (fun hc => ?_)
  · rw [if_pos (by simp at hc; omega)] at hR
    rw [← hR]
    (repeat (first | refine go ?_ | with_reducible intro _))
    refine Wk.ret ⟨_, Rs.tmp rfl Rs.nil, _, Sub.refl _, rfl, rfl, rfl⟩
  rw [if_neg (by simp at hc; omega)] at hR
  clear hc
  obtain ⟨e1, he1⟩ : ∃ e1, e1 = swp e i2 (i2 - 1) := ⟨_, rfl⟩
  have hs1 : e1.size = n := by rw [he1, Go.Sort.swp_size]; exact he
  rw [← he1] at hR
  (repeat (first | refine go ?_ | with_reducible intro _))
  refine Wk.drawr (ms := [0, 0, 0, 0, 8, 0, 0, 64, 224, 480, 0, 0, 3072, 7168, 16355, 32739, 65535, 131071]) (l := [0, 1, 2, 3, 4, 5, 6, 7, 8, 9, 10, 11, 12, 13, 14, 15, 16, 17]) (by kernel_rfl) (by kernel_rfl) (by kernel_rfl) rfl ?_
  (repeat (first | refine go ?_ | with_reducible intro _))
  refine Wk.iaP (i2 - 1) rfl rfl rfl rfl (by repeat (first | exact Rem.head | apply Rem.tail)) rfl rfl (by omega) (by omega) ?_
  refine Wk.loadOlp (cs := [_]) rfl rfl (by repeat (first | exact Rem.head | apply Rem.tail)) (Go.Proofs.J.ic_get (by first | omega | (simp only [Array.size_setIfInBounds, Go.Proofs.J.swp_size]; omega))) rfl rfl rfl ?_
  (repeat (first | refine go ?_ | with_reducible intro _))
  refine Wk.iaP (i2) rfl rfl rfl rfl (by repeat (first | exact Rem.head | apply Rem.tail)) rfl rfl (by omega) (by omega) ?_
  refine Wk.loadOlp (cs := [_]) rfl rfl (by repeat (first | exact Rem.head | apply Rem.tail)) (Go.Proofs.J.ic_get (by first | omega | (simp only [Array.size_setIfInBounds, Go.Proofs.J.swp_size]; omega))) rfl rfl rfl ?_
  (repeat (first | refine go ?_ | with_reducible intro _))
  refine Wk.iaP (i2) rfl rfl rfl rfl (by repeat (first | exact Rem.head | apply Rem.tail)) rfl rfl (by omega) (by omega) ?_
  refine Wk.storeOlp rfl rfl rfl rfl rfl (by repeat (first | exact Rem.head | apply Rem.tail)) (Go.Proofs.J.ic_set (by first | omega | (simp only [Array.size_setIfInBounds, Go.Proofs.J.swp_size]; omega))) (by kernel_rfl) rfl ?_
  refine Wk.iaP (i2 - 1) rfl rfl rfl rfl (by repeat (first | exact Rem.head | apply Rem.tail)) rfl rfl (by omega) (by omega) ?_
  refine Wk.storeOlp rfl rfl rfl rfl rfl (by repeat (first | exact Rem.head | apply Rem.tail)) (Go.Proofs.J.ic_set (by first | omega | (simp only [Array.size_setIfInBounds, Go.Proofs.J.swp_size]; omega))) (by kernel_rfl) rfl ?_
  (repeat (first | refine go ?_ | with_reducible intro _))
  refine Wk.cut (fun L Z' A' => Z = Z' ∧ A' = [olp b0 1 v n (ic (fixDown ltInt a i2 e1))] ∧ Kp L [(0, v), (1, .int .i64 a), (2, .int .i64 b), (7, .int .i64 i2), (8, .int .i64 s)]) ?_ ?_
  · refine Wk.cond rfl (fun hc => ?_) (fun hc => ?_)
    · have hF : fixDown ltInt a i2 e1 = shiftDown ltInt (i2 - 1) e1 := by unfold fixDown; rw [if_pos (by simp at hc; omega)]
      rw [hF]
      clear hc
      (repeat (first | refine go ?_ | with_reducible intro _))
      refine Wk.loop (fun mm2 L Z' A' => ∃ (j : Nat) (e' : Array Int), j ≤ i2 - 1 ∧ mm2 = j ∧ Z = Z' ∧ A' = [olp b0 1 v n (ic e')] ∧ e'.size = n ∧ shiftDown ltInt j e' = shiftDown ltInt (i2 - 1) e1 ∧ Kp L [(0, v), (1, .int .i64 a), (2, .int .i64 b), (7, .int .i64 i2), (8, .int .i64 s), (9, .int .i64 j)]) (i2 - 1) ⟨i2 - 1, e1, Nat.le_refl _, rfl, rfl, by rw [he1]; rfl, hs1, rfl, (by repeat (first | exact trivial | refine And.intro rfl ?_ | refine And.intro (kpI rfl (by omega)) ?_))⟩ ?_
      rintro mm2 L Z' A' - ⟨j, e', hj, hmm, rfl, rfl, he', hg, hk⟩
      refine Wk.kp hk ?_
      clear hk
      (repeat (first | refine go ?_ | with_reducible intro _))
      refine Wk.cond rfl (fun hc => ?_) (fun hc => ?_)
      rotate_left
      · obtain rfl : j = 0 := by simp at hc; omega
        (repeat (first | refine go ?_ | with_reducible intro _))
        exact Wk.inv ⟨rfl, (by rw [← hg]; try rfl), (by repeat (first | exact trivial | refine And.intro rfl ?_ | refine And.intro (kpI rfl (by omega)) ?_))⟩
      obtain ⟨r, rfl⟩ : ∃ r, j = r + 1 := ⟨j - 1, by simp at hc; omega⟩
      clear hc
      rw [shiftDown] at hg
      (repeat (first | refine go ?_ | with_reducible intro _))
      refine Wk.drawr (ms := [0, 0, 3, 7, 0, 0, 32, 112, 240, 511, 1023]) (l := [0, 1, 2, 3, 4, 5, 6, 7, 8, 9, 10]) (by kernel_rfl) (by kernel_rfl) (by kernel_rfl) rfl ?_
      (repeat (first | refine go ?_ | with_reducible intro _))
      refine Wk.iaP (r + 1) rfl rfl rfl rfl (by repeat (first | exact Rem.head | apply Rem.tail)) rfl rfl (by omega) (by omega) ?_
      refine Wk.loadOlp (cs := [_]) rfl rfl (by repeat (first | exact Rem.head | apply Rem.tail)) (Go.Proofs.J.ic_get (by first | omega | (simp only [Array.size_setIfInBounds, Go.Proofs.J.swp_size]; omega))) rfl rfl rfl ?_
      (repeat (first | refine go ?_ | with_reducible intro _))
      refine Wk.iaP (r) rfl rfl rfl rfl (by repeat (first | exact Rem.head | apply Rem.tail)) rfl rfl (by omega) (by omega) ?_
      refine Wk.loadOlp (cs := [_]) rfl rfl (by repeat (first | exact Rem.head | apply Rem.tail)) (Go.Proofs.J.ic_get (by first | omega | (simp only [Array.size_setIfInBounds, Go.Proofs.J.swp_size]; omega))) rfl rfl rfl ?_
      (repeat (first | refine go ?_ | with_reducible intro _))
      refine Wk.call rfl rfl (Spl.none _) (sLess) (by kernel_rfl) rfl rfl ?_
      rintro v' Z' A' hz ⟨rfl, rfl, rfl⟩
      (repeat (first | refine go ?_ | with_reducible intro _))
      refine Wk.cond rfl (fun hc => ?_) (fun hc => ?_)
      · rw [if_pos hc] at hg
        (repeat (first | refine go ?_ | with_reducible intro _))
        exact Wk.inv ⟨rfl, (by rw [← hg]; try rfl), (by repeat (first | exact trivial | refine And.intro rfl ?_ | refine And.intro (kpI rfl (by omega)) ?_))⟩
      rw [if_neg (by rw [hc]; simp)] at hg
      (repeat (first | refine go ?_ | with_reducible intro _))
      refine Wk.drawr (ms := [0, 0, 0, 0, 8, 0, 0, 64, 224, 480, 0, 0, 3072, 7168, 16355, 32739, 65535, 131071]) (l := [0, 1, 2, 3, 4, 5, 6, 7, 8, 9, 10, 11, 12, 13, 14, 15, 16, 17]) (by kernel_rfl) (by kernel_rfl) (by kernel_rfl) rfl ?_
      (repeat (first | refine go ?_ | with_reducible intro _))
      refine Wk.iaP (r) rfl rfl rfl rfl (by repeat (first | exact Rem.head | apply Rem.tail)) rfl rfl (by omega) (by omega) ?_
      refine Wk.loadOlp (cs := [_]) rfl rfl (by repeat (first | exact Rem.head | apply Rem.tail)) (Go.Proofs.J.ic_get (by first | omega | (simp only [Array.size_setIfInBounds, Go.Proofs.J.swp_size]; omega))) rfl rfl rfl ?_
      (repeat (first | refine go ?_ | with_reducible intro _))
      refine Wk.iaP (r + 1) rfl rfl rfl rfl (by repeat (first | exact Rem.head | apply Rem.tail)) rfl rfl (by omega) (by omega) ?_
      refine Wk.loadOlp (cs := [_]) rfl rfl (by repeat (first | exact Rem.head | apply Rem.tail)) (Go.Proofs.J.ic_get (by first | omega | (simp only [Array.size_setIfInBounds, Go.Proofs.J.swp_size]; omega))) rfl rfl rfl ?_
      (repeat (first | refine go ?_ | with_reducible intro _))
      refine Wk.iaP (r + 1) rfl rfl rfl rfl (by repeat (first | exact Rem.head | apply Rem.tail)) rfl rfl (by omega) (by omega) ?_
      refine Wk.storeOlp rfl rfl rfl rfl rfl (by repeat (first | exact Rem.head | apply Rem.tail)) (Go.Proofs.J.ic_set (by first | omega | (simp only [Array.size_setIfInBounds, Go.Proofs.J.swp_size]; omega))) (by kernel_rfl) rfl ?_
      refine Wk.iaP (r) rfl rfl rfl rfl (by repeat (first | exact Rem.head | apply Rem.tail)) rfl rfl (by omega) (by omega) ?_
      refine Wk.storeOlp rfl rfl rfl rfl rfl (by repeat (first | exact Rem.head | apply Rem.tail)) (Go.Proofs.J.ic_set (by first | omega | (simp only [Array.size_setIfInBounds, Go.Proofs.J.swp_size]; omega))) (by kernel_rfl) rfl ?_
      (repeat (first | refine go ?_ | with_reducible intro _))
      exact Wk.inv ⟨_, by omega, r, swp e' (r + 1) r, by omega, rfl, rfl, rfl, by rw [Go.Sort.swp_size]; exact he', hg, (by repeat (first | exact trivial | refine And.intro rfl ?_ | refine And.intro (kpI rfl (by omega)) ?_))⟩
    · have hF : fixDown ltInt a i2 e1 = e1 := by unfold fixDown; rw [if_neg (by simp at hc; omega)]
      rw [hF]
      (repeat (first | refine go ?_ | with_reducible intro _))
      exact Wk.inv ⟨rfl, by rw [he1]; rfl, (by repeat (first | exact trivial | refine And.intro rfl ?_ | refine And.intro (kpI rfl (by omega)) ?_))⟩
  rintro L Z' A' - ⟨rfl, rfl, hk⟩
  refine Wk.kp hk ?_
  clear hk
  obtain ⟨e2, he2⟩ : ∃ e2, e2 = fixDown ltInt a i2 e1 := ⟨_, rfl⟩
  have hs2 : e2.size = n := by
    rw [he2]; unfold fixDown
    split
    · rw [shiftDown_size]; exact hs1
    · exact hs1
  rw [← he2] at hR ⊢
  (repeat (first | refine go ?_ | with_reducible intro _))
  refine Wk.cut (fun L Z' A' => Z = Z' ∧ A' = [olp b0 1 v n (ic (fixUp ltInt b i2 e2))] ∧ Kp L [(0, v), (1, .int .i64 a), (2, .int .i64 b), (7, .int .i64 i2), (8, .int .i64 s)]) ?_ ?_
  · refine Wk.cond rfl (fun hc => ?_) (fun hc => ?_)
    · have hF : fixUp ltInt b i2 e2 = shiftUp ltInt b (i2 + 1) e2 := by unfold fixUp; rw [if_pos (by simp at hc; omega)]
      rw [hF]
      clear hc
      (repeat (first | refine go ?_ | with_reducible intro _))
      refine Wk.loop (fun mm2 L Z' A' => ∃ (j : Nat) (e' : Array Int), i2 + 1 ≤ j ∧ j ≤ b + 1 ∧ mm2 = b + 1 - j ∧ Z = Z' ∧ A' = [olp b0 1 v n (ic e')] ∧ e'.size = n ∧ shiftUp ltInt b j e' = shiftUp ltInt b (i2 + 1) e2 ∧ Kp L [(0, v), (1, .int .i64 a), (2, .int .i64 b), (7, .int .i64 i2), (8, .int .i64 s), (10, .int .i64 j)]) (b + 1 - (i2 + 1)) ⟨i2 + 1, e2, Nat.le_refl _, by omega, rfl, rfl, rfl, hs2, rfl, (by repeat (first | exact trivial | refine And.intro rfl ?_ | refine And.intro (kpI rfl (by omega)) ?_))⟩ ?_
      rintro mm2 L Z' A' - ⟨j, e', hj, hj2, rfl, rfl, rfl, he', hg, hk⟩
      refine Wk.kp hk ?_
      clear hk
      rw [shiftUp] at hg
      (repeat (first | refine go ?_ | with_reducible intro _))
      refine Wk.cond rfl (fun hc => ?_) (fun hc => ?_)
      rotate_left
      · rw [if_neg (by simp at hc; omega)] at hg
        (repeat (first | refine go ?_ | with_reducible intro _))
        exact Wk.inv ⟨rfl, (by rw [← hg]; try rfl), (by repeat (first | exact trivial | refine And.intro rfl ?_ | refine And.intro (kpI rfl (by omega)) ?_))⟩
      have hjb : j < b := by simp at hc; omega
      rw [if_pos hjb] at hg
      clear hc
      (repeat (first | refine go ?_ | with_reducible intro _))
      refine Wk.drawr (ms := [0, 0, 3, 7, 0, 0, 32, 112, 240, 511, 1023]) (l := [0, 1, 2, 3, 4, 5, 6, 7, 8, 9, 10]) (by kernel_rfl) (by kernel_rfl) (by kernel_rfl) rfl ?_
      (repeat (first | refine go ?_ | with_reducible intro _))
      refine Wk.iaP (j) rfl rfl rfl rfl (by repeat (first | exact Rem.head | apply Rem.tail)) rfl rfl (by omega) (by omega) ?_
      refine Wk.loadOlp (cs := [_]) rfl rfl (by repeat (first | exact Rem.head | apply Rem.tail)) (Go.Proofs.J.ic_get (by first | omega | (simp only [Array.size_setIfInBounds, Go.Proofs.J.swp_size]; omega))) rfl rfl rfl ?_
      (repeat (first | refine go ?_ | with_reducible intro _))
      refine Wk.iaP (j - 1) rfl rfl rfl rfl (by repeat (first | exact Rem.head | apply Rem.tail)) rfl rfl (by omega) (by omega) ?_
      refine Wk.loadOlp (cs := [_]) rfl rfl (by repeat (first | exact Rem.head | apply Rem.tail)) (Go.Proofs.J.ic_get (by first | omega | (simp only [Array.size_setIfInBounds, Go.Proofs.J.swp_size]; omega))) rfl rfl rfl ?_
      (repeat (first | refine go ?_ | with_reducible intro _))
      refine Wk.call rfl rfl (Spl.none _) (sLess) (by kernel_rfl) rfl rfl ?_
      rintro v' Z' A' hz ⟨rfl, rfl, rfl⟩
      (repeat (first | refine go ?_ | with_reducible intro _))
      refine Wk.cond rfl (fun hc => ?_) (fun hc => ?_)
      · rw [if_pos hc] at hg
        (repeat (first | refine go ?_ | with_reducible intro _))
        exact Wk.inv ⟨rfl, (by rw [← hg]; try rfl), (by repeat (first | exact trivial | refine And.intro rfl ?_ | refine And.intro (kpI rfl (by omega)) ?_))⟩
      rw [if_neg (by rw [hc]; simp)] at hg
      (repeat (first | refine go ?_ | with_reducible intro _))
      refine Wk.drawr (ms := [0, 0, 0, 0, 8, 0, 0, 64, 224, 480, 0, 0, 3072, 7168, 16355, 32739, 65535, 131071]) (l := [0, 1, 2, 3, 4, 5, 6, 7, 8, 9, 10, 11, 12, 13, 14, 15, 16, 17]) (by kernel_rfl) (by kernel_rfl) (by kernel_rfl) rfl ?_
      (repeat (first | refine go ?_ | with_reducible intro _))
      refine Wk.iaP (j - 1) rfl rfl rfl rfl (by repeat (first | exact Rem.head | apply Rem.tail)) rfl rfl (by omega) (by omega) ?_
      refine Wk.loadOlp (cs := [_]) rfl rfl (by repeat (first | exact Rem.head | apply Rem.tail)) (Go.Proofs.J.ic_get (by first | omega | (simp only [Array.size_setIfInBounds, Go.Proofs.J.swp_size]; omega))) rfl rfl rfl ?_
      (repeat (first | refine go ?_ | with_reducible intro _))
      refine Wk.iaP (j) rfl rfl rfl rfl (by repeat (first | exact Rem.head | apply Rem.tail)) rfl rfl (by omega) (by omega) ?_
      refine Wk.loadOlp (cs := [_]) rfl rfl (by repeat (first | exact Rem.head | apply Rem.tail)) (Go.Proofs.J.ic_get (by first | omega | (simp only [Array.size_setIfInBounds, Go.Proofs.J.swp_size]; omega))) rfl rfl rfl ?_
      (repeat (first | refine go ?_ | with_reducible intro _))
      refine Wk.iaP (j) rfl rfl rfl rfl (by repeat (first | exact Rem.head | apply Rem.tail)) rfl rfl (by omega) (by omega) ?_
      refine Wk.storeOlp rfl rfl rfl rfl rfl (by repeat (first | exact Rem.head | apply Rem.tail)) (Go.Proofs.J.ic_set (by first | omega | (simp only [Array.size_setIfInBounds, Go.Proofs.J.swp_size]; omega))) (by kernel_rfl) rfl ?_
      refine Wk.iaP (j - 1) rfl rfl rfl rfl (by repeat (first | exact Rem.head | apply Rem.tail)) rfl rfl (by omega) (by omega) ?_
      refine Wk.storeOlp rfl rfl rfl rfl rfl (by repeat (first | exact Rem.head | apply Rem.tail)) (Go.Proofs.J.ic_set (by first | omega | (simp only [Array.size_setIfInBounds, Go.Proofs.J.swp_size]; omega))) (by kernel_rfl) rfl ?_
      (repeat (first | refine go ?_ | with_reducible intro _))
      exact Wk.inv ⟨_, by omega, j + 1, swp e' j (j - 1), by omega, by omega, rfl, rfl, rfl, by rw [Go.Sort.swp_size]; exact he', hg, (by repeat (first | exact trivial | refine And.intro rfl ?_ | refine And.intro (kpI rfl (by omega)) ?_))⟩
    · have hF : fixUp ltInt b i2 e2 = e2 := by unfold fixUp; rw [if_neg (by simp at hc; omega)]
      rw [hF]
      (repeat (first | refine go ?_ | with_reducible intro _))
      exact Wk.inv ⟨rfl, rfl, (by repeat (first | exact trivial | refine And.intro rfl ?_ | refine And.intro (kpI rfl (by omega)) ?_))⟩
  rintro L Z' A' - ⟨rfl, rfl, hk⟩
  refine Wk.kp hk ?_
  clear hk
  have hs3 : (fixUp ltInt b i2 e2).size = n := by
    unfold fixUp
    split
    · rw [shiftUp_size _ (Nat.le_refl _)]; exact hs2
    · exact hs2
  (repeat (first | refine go ?_ | with_reducible intro _))
  exact Wk.inv ⟨_, by omega, s + 1, i2, _, by omega, by omega, by omega, rfl, rfl, rfl, hs3, by rw [← hR]; congr 1; omega, (by repeat (first | exact trivial | refine And.intro rfl ?_ | refine And.intro (kpI rfl (by omega)) ?_))⟩
end Go.Proofs.J
/- The sort of numbers: how long a number is, by bits. -/
namespace Go.Proofs.J
open Go.Ev Go Go.Sort
set_option linter.unusedVariables false
set_option maxHeartbeats 4000000
set_option maxRecDepth 10000
theorem fdiv32 (x : Nat) : Int.fdiv (x : Int) (2 ^ (min (Int.toNat 32) IntKind.u64.bits)) = ((x / 4294967296 : Nat) : Int) := by
  rw [Int.fdiv_eq_ediv_of_nonneg _ (by decide)]; rfl
theorem fdiv16 (x : Nat) : Int.fdiv (x : Int) (2 ^ (min (Int.toNat 16) IntKind.u64.bits)) = ((x / 65536 : Nat) : Int) := by
  rw [Int.fdiv_eq_ediv_of_nonneg _ (by decide)]; rfl
theorem fdiv8 (x : Nat) : Int.fdiv (x : Int) (2 ^ (min (Int.toNat 8) IntKind.u64.bits)) = ((x / 256 : Nat) : Int) := by
  rw [Int.fdiv_eq_ediv_of_nonneg _ (by decide)]; rfl
/-- The table of package math/bits. -/
def lenTab : ByteArray := ⟨(([0, 1] : List UInt8) ++ List.replicate 2 2 ++ List.replicate 4 3 ++ List.replicate 8 4 ++ List.replicate 16 5 ++ List.replicate 32 6 ++ List.replicate 64 7 ++ List.replicate 128 8).toArray⟩
theorem lenTab_all : (List.range 256).all (fun y => (Nat.beq y 0) || (match lenTab[y]? with | some w => Nat.ble (2 ^ w.toNat) (2 * y) && Nat.ble w.toNat 8 | none => false)) = true := by kernel_rfl
theorem lenTab_ok (y : Nat) (h1 : 1 ≤ y) (h2 : y < 256) : ∃ w, lenTab[y]? = some w ∧ 2 ^ w.toNat ≤ 2 * y ∧ w.toNat ≤ 8 := by
  have h := List.all_eq_true.1 lenTab_all y (List.mem_range.2 h2)
  have h0 : Nat.beq y 0 = false := by cases y with | zero => omega | succ y => rfl
  rw [h0, Bool.false_or] at h
  split at h
  · rename_i w e
    rw [Bool.and_eq_true] at h
    exact ⟨w, e, Nat.le_of_ble_eq_true h.1, Nat.le_of_ble_eq_true h.2⟩
  · cases h
theorem len64 {Z : Zone} (x : Nat) (h1 : 1 ≤ x) (h2 : x < 18446744073709551616) :
    Cz M (.func (.func 152) #[] #[]) [.int .u64 x] Z [] (fun v' Z' A' => (∃ r : Nat, v' = .int .i64 r ∧ 2 ^ r ≤ 2 * x ∧ r ≤ 64) ∧ Z = Z' ∧ A' = []) := by
  refine Cz.fn (f := Tryz.f152) (by kernel_rfl) rfl rfl rfl _ rfl ?_
  (repeat (first | refine go ?_ | with_reducible intro _))
  refine Wk.cut (fun L Z' A' => Z = Z' ∧ A' = [] ∧ ∃ y s : Nat, Kp L [(0, .int .u64 y), (2, .int .i64 s)] ∧ 1 ≤ y ∧ y < 4294967296 ∧ 2 ^ s * y ≤ x ∧ s ≤ 32) ?_ ?_
  · refine Wk.cond rfl (fun hc => ?_) (fun hc => ?_)
    · have hx : 4294967296 ≤ x := by have := of_decide_eq_true hc; omega
      (repeat (first | refine go ?_ | with_reducible intro _))
      refine Wk.inv ⟨rfl, rfl, x / 4294967296, 32, ⟨by rw [fdiv32]; rfl, rfl, trivial⟩, by omega, by omega, by omega, by omega⟩
    · have hx : x < 4294967296 := by have := of_decide_eq_false hc; omega
      (repeat (first | refine go ?_ | with_reducible intro _))
      refine Wk.inv ⟨rfl, rfl, x, 0, ⟨rfl, rfl, trivial⟩, by omega, by omega, by omega, by omega⟩
  rintro L Z' A' - ⟨rfl, rfl, y, s, hk, k1, k2, k3, k4⟩
  refine Wk.kp hk ?_
  clear hk
  (repeat (first | refine go ?_ | with_reducible intro _))
  refine Wk.cut (fun L Z' A' => Z = Z' ∧ A' = [] ∧ ∃ y s : Nat, Kp L [(0, .int .u64 y), (2, .int .i64 s)] ∧ 1 ≤ y ∧ y < 65536 ∧ 2 ^ s * y ≤ x ∧ s ≤ 48) ?_ ?_
  · refine Wk.cond rfl (fun hc => ?_) (fun hc => ?_)
    · have hx : 65536 ≤ y := by have := of_decide_eq_true hc; omega
      (repeat (first | refine go ?_ | with_reducible intro _))
      refine Wk.inv ⟨rfl, rfl, y / 65536, s + 16, ⟨by rw [fdiv16]; rfl, rfl, trivial⟩, by omega, by omega, ?_, by omega⟩
      rw [Nat.pow_add, Nat.mul_assoc]
      exact Nat.le_trans (Nat.mul_le_mul_left _ (by omega)) k3
    · have hx : y < 65536 := by have := of_decide_eq_false hc; omega
      (repeat (first | refine go ?_ | with_reducible intro _))
      refine Wk.inv ⟨rfl, rfl, y, s, ⟨rfl, rfl, trivial⟩, by omega, by omega, k3, by omega⟩
  clear k1 k2 k3 k4 y s
  rintro L Z' A' - ⟨rfl, rfl, y, s, hk, k1, k2, k3, k4⟩
  refine Wk.kp hk ?_
  clear hk
  (repeat (first | refine go ?_ | with_reducible intro _))
  refine Wk.cut (fun L Z' A' => Z = Z' ∧ A' = [] ∧ ∃ y s : Nat, Kp L [(0, .int .u64 y), (2, .int .i64 s)] ∧ 1 ≤ y ∧ y < 256 ∧ 2 ^ s * y ≤ x ∧ s ≤ 56) ?_ ?_
  · refine Wk.cond rfl (fun hc => ?_) (fun hc => ?_)
    · have hx : 256 ≤ y := by have := of_decide_eq_true hc; omega
      (repeat (first | refine go ?_ | with_reducible intro _))
      refine Wk.inv ⟨rfl, rfl, y / 256, s + 8, ⟨by rw [fdiv8]; rfl, rfl, trivial⟩, by omega, by omega, ?_, by omega⟩
      rw [Nat.pow_add, Nat.mul_assoc]
      exact Nat.le_trans (Nat.mul_le_mul_left _ (by omega)) k3
    · have hx : y < 256 := by have := of_decide_eq_false hc; omega
      (repeat (first | refine go ?_ | with_reducible intro _))
      refine Wk.inv ⟨rfl, rfl, y, s, ⟨rfl, rfl, trivial⟩, by omega, by omega, k3, by omega⟩
  clear k1 k2 k3 k4 y s
  rintro L Z' A' - ⟨rfl, rfl, y, s, hk, k1, k2, k3, k4⟩
  refine Wk.kp hk ?_
  clear hk
  obtain ⟨w, w1, w2, w3⟩ := lenTab_ok y k1 k2
  (repeat (first | refine go ?_ | with_reducible intro _))
  refine Wk.ixStr (j := y) (s := lenTab) rfl rfl (by kernel_rfl) (by omega) w1 rfl rfl ?_
  refine Wk.conv rfl rfl rfl (wrap_small (c := w.toNat) (by omega) (by omega)) rfl rfl rfl ?_
  (repeat (first | refine go ?_ | with_reducible intro _))
  refine Wk.ret ⟨_, Rs.tmp rfl Rs.nil, _, Sub.none _, ⟨s + w.toNat, by simp [outOf], ?_, by omega⟩, rfl, rfl⟩
  rw [Nat.pow_add]
  refine Nat.le_trans (Nat.mul_le_mul_left _ w2) ?_
  rw [Nat.mul_left_comm]
  exact Nat.mul_le_mul_left _ k3
theorem len_ {Z : Zone} (x : Nat) (h1 : 1 ≤ x) (h2 : x < 18446744073709551616) :
    Cz M (.func (.func 106) #[] #[]) [.int .u64 x] Z [] (fun v' Z' A' => (∃ r : Nat, v' = .int .i64 r ∧ 2 ^ r ≤ 2 * x ∧ r ≤ 64) ∧ Z = Z' ∧ A' = []) := by
  refine Cz.fn (f := Tryz.f106) (by kernel_rfl) rfl rfl rfl _ rfl ?_
  (repeat (first | refine go ?_ | with_reducible intro _))
  refine Wk.call rfl rfl (Spl.none _) (len64 x h1 h2) rfl rfl rfl ?_
  rintro v' Z' A' hz ⟨⟨r, rfl, h3, h4⟩, rfl, rfl⟩
  (repeat (first | refine go ?_ | with_reducible intro _))
  refine Wk.ret ⟨_, Rs.tmp rfl Rs.nil, _, Sub.none _, ⟨r, by simp [outOf], h3, h4⟩, rfl, rfl⟩
theorem u64_small {c : Int} (h0 : 0 ≤ c) (h1 : c < 18446744073709551616) : IntKind.u64.wrap c = c := by
  simp [IntKind.wrap, IntKind.bits, IntKind.signed]
  omega
theorem nextPow {Z : Zone} (n : Nat) (h1 : 1 ≤ n) (h2 : n ≤ 17592186044416) :
    Cz M (.func (.func 174) #[] #[]) [.int .i64 n] Z [] (fun v' Z' A' => (∃ p : Nat, v' = .int .u64 p ∧ 1 ≤ p ∧ p ≤ 2 * n) ∧ Z = Z' ∧ A' = []) := by
  refine Cz.fn (f := Tryz.f174) (by kernel_rfl) rfl rfl rfl _ rfl ?_
  (repeat (first | refine go ?_ | with_reducible intro _))
  refine Wk.conv rfl rfl rfl (u64_small (c := n) (by omega) (by omega)) rfl rfl rfl ?_
  (repeat (first | refine go ?_ | with_reducible intro _))
  refine Wk.call rfl rfl (Spl.none _) (len_ n h1 (by omega)) rfl rfl rfl ?_
  rintro v' Z' A' hz ⟨⟨r, rfl, h3, h4⟩, rfl, rfl⟩
  (repeat (first | refine go ?_ | with_reducible intro _))
  have hp : IntKind.u64.wrap (1 * 2 ^ min (r : Int).toNat IntKind.u64.bits) = ((2 ^ r : Nat) : Int) := by
    have e1 : min (r : Int).toNat IntKind.u64.bits = r := Nat.min_eq_left h4
    have e2 : (1 * 2 ^ r : Int) = ((2 ^ r : Nat) : Int) := by simp
    rw [e1, e2]
    generalize 2 ^ r = q at h3 ⊢
    exact u64_small (by omega) (by omega)
  rw [hp]
  refine Wk.ret ⟨_, Rs.tmp rfl Rs.nil, _, Sub.none _, ⟨2 ^ r, rfl, Nat.two_pow_pos r, h3⟩, rfl, rfl⟩
theorem u64_nat (c : Int) : ∃ y : Nat, y < 18446744073709551616 ∧ IntKind.u64.wrap c = y := by
  refine ⟨(IntKind.u64.wrap c).toNat, ?_, ?_⟩ <;> simp [IntKind.wrap, IntKind.bits, IntKind.signed] <;> omega
theorem Wk.u64r {fn : FuncId} {rd : Option Nat} {n : Nat} {Q : PQ} {k : List KI} {L : Lo} {Z : Zone} {A : List SA} {ops : Array Oper} {dr : Bool} {pl : List Ro} {ps : List Pn} (t : Nat) {c : Int} (hv : lk L t = some (.int .u64 (IntKind.u64.wrap c))) (h : ∀ y : Nat, y < 18446744073709551616 → Wk M fn rd n Q (.r ops dr pl ps :: k) ((t, .int .u64 y) :: L) Z A) : Wk M fn rd n Q (.r ops dr pl ps :: k) L Z A := by
  obtain ⟨y, h1, h2⟩ := u64_nat c
  exact Wk.tellr t _ hv (by rw [h2]) (h y h1)
theorem xnext {Z : Zone} (b : Nat) (x : Nat) (h2 : x < 18446744073709551616) :
    Cz M (.func (.func 175) #[] #[]) [.pointer (some ⟨b, 0, none⟩)] Z [pt b (.cells [.int .u64 x] true 0)] (fun v' Z' A' => Z = Z' ∧ ∃ y : Nat, y < 18446744073709551616 ∧ v' = .int .u64 y ∧ A' = [pt b (.cells [.int .u64 y] true 0)]) := by
  refine Cz.fn (f := Tryz.f175) (by kernel_rfl) rfl rfl rfl _ rfl ?_
  (repeat (first | refine go ?_ | with_reducible intro _))
  refine Wk.drawr (ms := [0, 1, 3, 0, 8, 24, 56, 127, 255, 511]) (l := [0, 1, 2, 3, 4, 5, 6, 7, 8, 9]) (by kernel_rfl) (by kernel_rfl) (by kernel_rfl) rfl ?_
  (repeat (first | refine go ?_ | with_reducible intro _))
  refine Wk.u64r 10 rfl fun y hy => ?_
  refine Wk.store rfl rfl rfl rfl rfl .head rfl (by kernel_rfl) rfl ?_
  (repeat (first | refine go ?_ | with_reducible intro _))
  refine Wk.drawr (ms := [0, 1, 3, 0, 8, 24, 56, 127, 255, 511]) (l := [0, 1, 2, 3, 4, 5, 6, 7, 8, 9]) (by kernel_rfl) (by kernel_rfl) (by kernel_rfl) rfl ?_
  (repeat (first | refine go ?_ | with_reducible intro _))
  refine Wk.u64r 19 rfl fun z hz => ?_
  refine Wk.store rfl rfl rfl rfl rfl .head rfl (by kernel_rfl) rfl ?_
  (repeat (first | refine go ?_ | with_reducible intro _))
  refine Wk.drawr (ms := [0, 1, 3, 0, 8, 24, 56, 127, 255, 511]) (l := [0, 1, 2, 3, 4, 5, 6, 7, 8, 9]) (by kernel_rfl) (by kernel_rfl) (by kernel_rfl) rfl ?_
  (repeat (first | refine go ?_ | with_reducible intro _))
  refine Wk.u64r 28 rfl fun w hw => ?_
  refine Wk.store rfl rfl rfl rfl rfl .head rfl (by kernel_rfl) rfl ?_
  (repeat (first | refine go ?_ | with_reducible intro _))
  refine Wk.ret ⟨_, Rs.tmp rfl Rs.nil, _, Sub.refl _, rfl, w, hw, rfl, rfl⟩
end Go.Proofs.J
/- The sort of numbers: patterns are broken. -/
namespace Go.Proofs.J
open Go.Ev Go Go.Sort
set_option linter.unusedVariables false
set_option maxHeartbeats 4000000
theorem and_nat (y q : Nat) (hq : q < 18446744073709551616) : ∃ o : Nat, o ≤ q ∧ IntKind.u64.wrap ((BitVec.ofInt IntKind.u64.bits (y : Int) &&& BitVec.ofInt IntKind.u64.bits (q : Int)).toNat : Int) = o := by
  refine ⟨(BitVec.ofInt IntKind.u64.bits (y : Int) &&& BitVec.ofInt IntKind.u64.bits (q : Int)).toNat, ?_, ?_⟩
  · rw [BitVec.toNat_and]
    refine Nat.le_trans Nat.and_le_right ?_
    rw [BitVec.ofInt_natCast, BitVec.toNat_ofNat]
    exact Nat.mod_le _ _
  · have h := (BitVec.ofInt IntKind.u64.bits (y : Int) &&& BitVec.ofInt IntKind.u64.bits (q : Int)).isLt
    have e : (2 : Nat) ^ IntKind.u64.bits = 18446744073709551616 := by decide
    rw [e] at h
    exact u64_small (by omega) (by omega)
theorem breakPatterns_ {Z : Zone} {v : Value} {b0 n a b : Nat} {d : Array Int} (hn : d.size = n) (hab : a ≤ b) (hb : b ≤ n) (hs : n ≤ 1000000) :
    Cz M (.func (.func 144) #[] #[]) [v, .int .i64 a, .int .i64 b] Z [olp b0 1 v n (ic d)] (fun v' Z' A' => Z = Z' ∧ ∃ e, PermIn a b d e ∧ A' = [olp b0 1 v n (ic e)]) := by
  refine Cz.fn (f := Tryz.f144) (by kernel_rfl) rfl rfl rfl _ rfl ?_
  (repeat (first | refine go ?_ | with_reducible intro _))
  refine Wk.cond rfl (fun hc => ?_) (fun hc => ?_)
  rotate_left
  · (repeat (first | refine go ?_ | with_reducible intro _))
    refine Wk.done ⟨_, Rs.nil, _, Sub.refl _, rfl, d, permIn_refl _ _ _, rfl⟩
  obtain ⟨l, hl⟩ : ∃ l, b = a + l := ⟨b - a, by omega⟩
  subst hl
  have h8 : 8 ≤ l := by simp at hc; omega
  clear hc
  refine Wk.tell 6 (.int .i64 l) rfl (by congr 1; omega) ?_
  (repeat (first | refine go ?_ | with_reducible intro _))
  refine Wk.conv rfl rfl rfl (u64_small (c := l) (by omega) (by omega)) rfl rfl rfl ?_
  (repeat (first | refine go ?_ | with_reducible intro _))
  rename_i bx
  refine Wk.call rfl rfl (Spl.none _) (nextPow l (by omega) (by omega)) rfl rfl rfl ?_
  rintro v' Z' A' hz ⟨⟨p, rfl, hp1, hp2⟩, rfl, rfl⟩
  (repeat (first | refine go ?_ | with_reducible intro _))
  refine Wk.loop (fun mm L Z' A' => ∃ (i y : Nat) (e : Array Int), a ≤ i ∧ i ≤ a + l / 4 * 2 + 2 ∧ mm = a + l / 4 * 2 + 2 - i ∧ Z = Z' ∧ y < 18446744073709551616 ∧ PermIn a (a + l) d e ∧ A' = [pt bx (.cells [.int .u64 y] true 0), olp b0 1 v n (ic e)] ∧ Kp L [(0, v), (1, .int .i64 a), (6, .int .i64 l), (7, .pointer (some ⟨bx, 0, none⟩)), (8, .int .u64 p), (9, .int .i64 i)]) (a + l / 4 * 2 + 2 - (a + l / 4 * 2 - 1)) ⟨a + l / 4 * 2 - 1, l, d, by omega, by omega, rfl, rfl, by omega, permIn_refl _ _ _, rfl, (by repeat (first | exact trivial | refine And.intro rfl ?_ | refine And.intro (kpI rfl (by omega)) ?_))⟩ ?_
  rintro mm L Z' A' - ⟨i, y, e, hi1, hi2, rfl, rfl, hy, hpe, rfl, hk⟩
  refine Wk.kp hk ?_
  clear hk
  have he : e.size = n := by rw [hpe.1]; exact hn
  (repeat (first | refine go ?_ | with_reducible intro _))
  refine Wk.cond rfl (fun hc => ?_) (fun hc => ?_)
  · have hle : i < a + l / 4 * 2 + 2 := by simp at hc; omega
    clear hc
    (repeat (first | refine go ?_ | with_reducible intro _))
    refine Wk.call rfl rfl (.l (.r .nil)) (xnext bx y hy) rfl rfl rfl ?_
    rintro v36 Z' A' hz ⟨rfl, z, hz2, rfl, rfl⟩
    (repeat (first | refine go ?_ | with_reducible intro _))
    refine Wk.bin (v := .int .u64 ((p - 1 : Nat) : Int)) rfl rfl (by
      show some (Value.int .u64 (IntKind.u64.wrap ((p : Int) - 1))) = _
      rw [u64_small (by omega) (by omega), show (p : Int) - 1 = ((p - 1 : Nat) : Int) by omega]) rfl rfl ?_
    (repeat (first | refine go ?_ | with_reducible intro _))
    obtain ⟨o, ho, eo⟩ := and_nat z (p - 1) (by omega)
    refine Wk.tellr 39 (.int .u64 o) rfl (by rw [eo]) ?_
    refine Wk.conv rfl rfl rfl (wrap_small (c := o) (by omega) (by omega)) rfl rfl rfl ?_
    (repeat (first | refine go ?_ | with_reducible intro _))
    refine Wk.cut (fun L Z' A' => Z = Z' ∧ A' = [pt bx (.cells [.int .u64 z] true 0), olp b0 1 v n (ic e)] ∧ ∃ q : Nat, q < l ∧ Kp L [(0, v), (1, .int .i64 a), (6, .int .i64 l), (7, .pointer (some ⟨bx, 0, none⟩)), (8, .int .u64 p), (9, .int .i64 i), (10, .int .i64 q)]) ?_ ?_
    · refine Wk.cond rfl (fun hc => ?_) (fun hc => ?_)
      · have hx : l ≤ o := by have := of_decide_eq_true hc; omega
        (repeat (first | refine go ?_ | with_reducible intro _))
        refine Wk.inv ⟨rfl, rfl, o - l, by omega, (by repeat (first | exact trivial | refine And.intro rfl ?_ | refine And.intro (kpI rfl (by omega)) ?_))⟩
      · have hx : o < l := by have := of_decide_eq_false hc; omega
        (repeat (first | refine go ?_ | with_reducible intro _))
        refine Wk.inv ⟨rfl, rfl, o, by omega, (by repeat (first | exact trivial | refine And.intro rfl ?_ | refine And.intro (kpI rfl (by omega)) ?_))⟩
    rintro L Z' A' - ⟨rfl, rfl, q, hq, hk⟩
    refine Wk.kp hk ?_
    clear hk
    (repeat (first | refine go ?_ | with_reducible intro _))
    refine Wk.drawr (ms := [0, 0, 0, 0, 0, 24, 0, 0, 0, 384, 960, 1984, 0, 0, 12288, 28672, 65475, 131011, 262143, 524287]) (l := [0, 1, 2, 3, 4, 5, 6, 7, 8, 9, 10, 11, 12, 13, 14, 15, 16, 17, 18, 19]) (by kernel_rfl) (by kernel_rfl) (by kernel_rfl) rfl ?_
    (repeat (first | refine go ?_ | with_reducible intro _))
    refine Wk.iaP (a + q) rfl rfl rfl rfl (by repeat (first | exact Rem.head | apply Rem.tail)) rfl rfl (by omega) (by omega) ?_
    refine Wk.loadOlp (cs := [_]) rfl rfl (by repeat (first | exact Rem.head | apply Rem.tail)) (Go.Proofs.J.ic_get (by first | omega | (simp only [Array.size_setIfInBounds, Go.Proofs.J.swp_size]; omega))) rfl rfl rfl ?_
    (repeat (first | refine go ?_ | with_reducible intro _))
    refine Wk.iaP (i) rfl rfl rfl rfl (by repeat (first | exact Rem.head | apply Rem.tail)) rfl rfl (by omega) (by omega) ?_
    refine Wk.loadOlp (cs := [_]) rfl rfl (by repeat (first | exact Rem.head | apply Rem.tail)) (Go.Proofs.J.ic_get (by first | omega | (simp only [Array.size_setIfInBounds, Go.Proofs.J.swp_size]; omega))) rfl rfl rfl ?_
    (repeat (first | refine go ?_ | with_reducible intro _))
    refine Wk.iaP (i) rfl rfl rfl rfl (by repeat (first | exact Rem.head | apply Rem.tail)) rfl rfl (by omega) (by omega) ?_
    refine Wk.storeOlp rfl rfl rfl rfl rfl (by repeat (first | exact Rem.head | apply Rem.tail)) (Go.Proofs.J.ic_set (by first | omega | (simp only [Array.size_setIfInBounds, Go.Proofs.J.swp_size]; omega))) (by kernel_rfl) rfl ?_
    refine Wk.iaP (a + q) rfl rfl rfl rfl (by repeat (first | exact Rem.head | apply Rem.tail)) rfl rfl (by omega) (by omega) ?_
    refine Wk.storeOlp rfl rfl rfl rfl rfl (by repeat (first | exact Rem.head | apply Rem.tail)) (Go.Proofs.J.ic_set (by first | omega | (simp only [Array.size_setIfInBounds, Go.Proofs.J.swp_size]; omega))) (by kernel_rfl) rfl ?_
    refine Wk.alterr (x := pt bx (.cells [.int .u64 z] true 0)) (C := [pt bx (.cells [.int .u64 z] true 0)]) (by repeat (first | exact Rem.head | apply Rem.tail)) (fun s h => Sat.one h) ?_
    (repeat (first | refine go ?_ | with_reducible intro _))
    refine Wk.inv ⟨_, by omega, i + 1, z, swp e i (a + q), by omega, by omega, rfl, rfl, hz2, permIn_trans _ _ _ _ _ hpe (swp_permIn e a (a + l) i (a + q) hi1 (by omega) (by omega) (by omega) (by omega)), rfl, (by repeat (first | exact trivial | refine And.intro rfl ?_ | refine And.intro (kpI rfl (by omega)) ?_))⟩
  · (repeat (first | refine go ?_ | with_reducible intro _))
    refine Wk.done ⟨_, Rs.nil, _, Sub.drop (Sub.refl _), rfl, e, hpe, rfl⟩
end Go.Proofs.J
/- The sort of numbers: the whole. -/
namespace Go.Proofs.J
open Go.Ev Go Go.Sort
set_option linter.unusedVariables false
set_option maxHeartbeats 4000000
def Pdq (N : Nat) : Prop := ∀ {Z : Zone} {v : Value} {b0 n a b lim : Nat} {d : Array Int}, b - a ≤ N → d.size = n → a ≤ b → b ≤ n → n ≤ 1000000 → lim ≤ 64 → Below ltInt a b d →
    Cz M (.func (.func 105) #[] #[]) [v, .int .i64 a, .int .i64 b, .int .i64 lim] Z [olp b0 1 v n (ic d)] (fun v' Z' A' => Z = Z' ∧ ∃ e, PermIn a b d e ∧ SortedIn ltInt a b e ∧ A' = [olp b0 1 v n (ic e)])
theorem pdq_step {N : Nat} (swo : SWO ltInt) (ih : ∀ m, m < N → Pdq m) : Pdq N := by
  intro Z v b0 n a b lim d hN hn hab hb hs hl hB
  refine Cz.fn (f := Tryz.f105) (by kernel_rfl) rfl rfl rfl _ rfl ?_
  (repeat (first | refine go ?_ | with_reducible intro _))
  refine Wk.loop (fun mm L Z' A' => ∃ (a' b' l' : Nat) (wb wp : Bool) (e : Array Int), b' - a' ≤ b - a ∧ mm = b' - a' ∧ a' ≤ b' ∧ b' ≤ n ∧ l' ≤ 64 ∧ e.size = n ∧ Below ltInt a' b' e ∧ (∀ R, PermIn a' b' e R → SortedIn ltInt a' b' R → PermIn a b d R ∧ SortedIn ltInt a b R) ∧ Z = Z' ∧ A' = [olp b0 1 v n (ic e)] ∧
    Kp L [(0, v), (1, .int .i64 a'), (2, .int .i64 b'), (3, .int .i64 l'), (8, .bool wb), (9, .bool wp)]) (b - a)
    ⟨a, b, lim, true, true, d, Nat.le_refl _, rfl, hab, hb, hl, hn, hB, fun R h1 h2 => ⟨h1, h2⟩, rfl, rfl, (by repeat (first | exact trivial | refine And.intro rfl ?_ | refine And.intro (kpI rfl (by omega)) ?_))⟩ ?_
  rintro mm L Z' A' - ⟨a', b', l', wb, wp, e, hle, rfl, hab', hb', hl', he, hB', hG, rfl, rfl, hk⟩
  refine Wk.kp hk ?_
  clear hk
  (repeat (first | refine go ?_ | with_reducible intro _))
  refine Wk.cond rfl (fun hc => ?_) (fun hc => ?_)
  · clear hc
    (repeat (first | refine go ?_ | with_reducible intro _))
    refine Wk.call rfl rfl (.l .nil) (insertion he hb' hs (by omega)) rfl rfl rfl ?_
    rintro v' Z' A' hz ⟨rfl, rfl⟩
    (repeat (first | refine go ?_ | with_reducible intro _))
    obtain ⟨q1, q2⟩ := insertionSort_holds swo e a' b' hab' (by omega)
    obtain ⟨g1, g2⟩ := hG _ q1 q2
    refine Wk.ret ⟨_, Rs.nil, _, Sub.refl _, rfl, _, g1, g2, rfl⟩
  have h12 : 12 < b' - a' := by simp at hc; omega
  clear hc
  (repeat (first | refine go ?_ | with_reducible intro _))
  refine Wk.cond rfl (fun hc => ?_) (fun hc => ?_)
  · clear hc
    (repeat (first | refine go ?_ | with_reducible intro _))
    refine Wk.call rfl rfl (.l .nil) (heap he hb' hs (by omega)) rfl rfl rfl ?_
    rintro v' Z' A' hz ⟨rfl, rfl⟩
    (repeat (first | refine go ?_ | with_reducible intro _))
    obtain ⟨q1, q2⟩ := heapSort_holds swo e a' b' hab' (by omega)
    obtain ⟨g1, g2⟩ := hG _ q1 q2
    refine Wk.ret ⟨_, Rs.nil, _, Sub.refl _, rfl, _, g1, g2, rfl⟩
  have hl0 : l' ≠ 0 := by simp at hc; omega
  clear hc
  (repeat (first | refine go ?_ | with_reducible intro _))
  refine Wk.cut (fun L Z' A' => Z = Z' ∧ ∃ (e1 : Array Int) (l1 : Nat), l1 ≤ 64 ∧ PermIn a' b' e e1 ∧ A' = [olp b0 1 v n (ic e1)] ∧ Kp L [(0, v), (1, .int .i64 a'), (2, .int .i64 b'), (3, .int .i64 l1), (8, .bool wb), (9, .bool wp), (10, .int .i64 ((b' - a' : Nat)))]) ?_ ?_
  · refine Wk.cond rfl (fun hc => ?_) (fun hc => ?_)
    · (repeat (first | refine go ?_ | with_reducible intro _))
      refine Wk.call rfl rfl (.l .nil) (breakPatterns_ he hab' hb' hs) rfl rfl rfl ?_
      rintro v' Z' A' hz ⟨rfl, e1, hp1, rfl⟩
      (repeat (first | refine go ?_ | with_reducible intro _))
      refine Wk.inv ⟨rfl, e1, l' - 1, by omega, hp1, rfl, (by repeat (first | exact trivial | refine And.intro rfl ?_ | refine And.intro (kpI rfl (by omega)) ?_))⟩
    · (repeat (first | refine go ?_ | with_reducible intro _))
      refine Wk.inv ⟨rfl, e, l', by omega, permIn_refl _ _ _, rfl, (by repeat (first | exact trivial | refine And.intro rfl ?_ | refine And.intro (kpI rfl (by omega)) ?_))⟩
  rintro L Z' A' - ⟨rfl, e1, l1, hl1, hp1, rfl, hk⟩
  refine Wk.kp hk ?_
  clear hk hl0 hl'
  have he1 : e1.size = n := by rw [hp1.1]; exact he
  (repeat (first | refine go ?_ | with_reducible intro _))
  refine Wk.call rfl rfl (.l .nil) (pivot_ he1 (by omega) hb' hs) rfl rfl rfl ?_
  rintro v' Z' A' hz ⟨p, h, rfl, hpa, hpb, rfl, rfl⟩
  (repeat (first | refine go ?_ | with_reducible intro _))
  refine Wk.cut (fun L Z' A' => Z = Z' ∧ ∃ (e2 : Array Int) (p2 : Nat) (h2 : Int), a' ≤ p2 ∧ p2 < b' ∧ PermIn a' b' e e2 ∧ A' = [olp b0 1 v n (ic e2)] ∧ Kp L [(0, v), (1, .int .i64 a'), (2, .int .i64 b'), (3, .int .i64 l1), (8, .bool wb), (9, .bool wp), (10, .int .i64 ((b' - a' : Nat))), (11, .int .i64 p2), (12, .int .i64 h2)]) ?_ ?_
  · refine Wk.cond rfl (fun hc => ?_) (fun hc => ?_)
    · (repeat (first | refine go ?_ | with_reducible intro _))
      refine Wk.call rfl rfl (.l .nil) (reverse_ he1 hb' hs (by omega)) rfl rfl rfl ?_
      rintro v' Z' A' hz ⟨rfl, rfl⟩
      (repeat (first | refine go ?_ | with_reducible intro _))
      refine Wk.inv ⟨rfl, _, b' - 1 - (p - a'), 1, by omega, by omega, permIn_trans _ _ _ _ _ hp1 (reverseRange_holds e1 a' b' hab' (by omega)), rfl, (by repeat (first | exact trivial | refine And.intro rfl ?_ | refine And.intro (kpI rfl (by omega)) ?_))⟩
    · (repeat (first | refine go ?_ | with_reducible intro _))
      refine Wk.inv ⟨rfl, e1, p, h, hpa, hpb, hp1, rfl, (by repeat (first | exact trivial | refine And.intro rfl ?_ | refine And.intro (kpI rfl (by omega)) ?_))⟩
  clear hp1 he1 hpa hpb e1 p h
  rintro L Z' A' - ⟨rfl, e2, p, h, hpa, hpb, hp2, rfl, hk⟩
  refine Wk.kp hk ?_
  clear hk
  have he2 : e2.size = n := by rw [hp2.1]; exact he
  (repeat (first | refine go ?_ | with_reducible intro _))
  refine Wk.cutr (fun L Z' A' => Z = Z' ∧ A' = [olp b0 1 v n (ic e2)] ∧ ∃ t : Bool, Kp L [(0, v), (1, .int .i64 a'), (2, .int .i64 b'), (3, .int .i64 l1), (8, .bool wb), (9, .bool wp), (10, .int .i64 ((b' - a' : Nat))), (11, .int .i64 p), (68, .bool t)]) ?_ ?_
  · cases wb with
    | false =>
      (repeat (first | refine go ?_ | with_reducible intro _))
      exact Wk.inv ⟨rfl, rfl, _, (by repeat (first | exact trivial | refine And.intro rfl ?_ | refine And.intro (kpI rfl (by omega)) ?_))⟩
    | true =>
      cases wp with
      | false =>
        (repeat (first | refine go ?_ | with_reducible intro _))
        exact Wk.inv ⟨rfl, rfl, _, (by repeat (first | exact trivial | refine And.intro rfl ?_ | refine And.intro (kpI rfl (by omega)) ?_))⟩
      | true =>
        (repeat (first | refine go ?_ | with_reducible intro _))
        exact Wk.inv ⟨rfl, rfl, _, (by repeat (first | exact trivial | refine And.intro rfl ?_ | refine And.intro (kpI rfl (by omega)) ?_))⟩
  rintro L Z' A' - ⟨rfl, rfl, t, hk⟩
  refine Wk.kp hk ?_
  clear hk
  (repeat (first | refine go ?_ | with_reducible intro _))
  refine Wk.cut (fun L Z' A' => Z = Z' ∧ ∃ (e3 : Array Int), PermIn a' b' e e3 ∧ A' = [olp b0 1 v n (ic e3)] ∧ Kp L [(0, v), (1, .int .i64 a'), (2, .int .i64 b'), (3, .int .i64 l1), (8, .bool wb), (9, .bool wp), (10, .int .i64 ((b' - a' : Nat))), (11, .int .i64 p)]) ?_ ?_
  · refine Wk.cond rfl (fun hc => ?_) (fun hc => ?_)
    · (repeat (first | refine go ?_ | with_reducible intro _))
      refine Wk.call rfl rfl (.l .nil) (partialIns_ he2 (by omega) hb' hs) rfl rfl rfl ?_
      rintro v' Z' A' hz ⟨rfl, rfl, rfl⟩
      obtain ⟨q1, q2⟩ := partialInsertionSort_holds swo e2 a' b' (by omega) (by omega) (hB'.perm (by omega) hp2)
      (repeat (first | refine go ?_ | with_reducible intro _))
      refine Wk.cond rfl (fun hc => ?_) (fun hc => ?_)
      · (repeat (first | refine go ?_ | with_reducible intro _))
        obtain ⟨g1, g2⟩ := hG _ (permIn_trans _ _ _ _ _ hp2 q1) (q2 hc)
        refine Wk.ret ⟨_, Rs.nil, _, Sub.refl _, rfl, _, g1, g2, rfl⟩
      · (repeat (first | refine go ?_ | with_reducible intro _))
        refine Wk.inv ⟨rfl, _, permIn_trans _ _ _ _ _ hp2 q1, rfl, (by repeat (first | exact trivial | refine And.intro rfl ?_ | refine And.intro (kpI rfl (by omega)) ?_))⟩
    · (repeat (first | refine go ?_ | with_reducible intro _))
      refine Wk.inv ⟨rfl, e2, hp2, rfl, (by repeat (first | exact trivial | refine And.intro rfl ?_ | refine And.intro (kpI rfl (by omega)) ?_))⟩
  clear hp2 he2 e2
  rintro L Z' A' - ⟨rfl, e3, hp3, rfl, hk⟩
  refine Wk.kp hk ?_
  clear hk
  have he3 : e3.size = n := by rw [hp3.1]; exact he
  have hB3 : Below ltInt a' b' e3 := hB'.perm (by omega) hp3
  (repeat (first | refine go ?_ | with_reducible intro _))
  refine Wk.drawr (ms := [0, 1, 3, 7, 7, 23, 63, 127, 7, 7, 775, 1799, 4095, 8191, 16383]) (l := [0, 1, 2, 3, 4, 5, 6, 7, 8, 9, 10, 11, 12, 13, 14]) (by kernel_rfl) (by kernel_rfl) (by kernel_rfl) rfl ?_
  (repeat (first | refine go ?_ | with_reducible intro _))
  refine Wk.cutr (fun L Z' A' => Z = Z' ∧ A' = [olp b0 1 v n (ic e3)] ∧ ∃ t : Bool, (t = true → 0 < a' ∧ ltInt e3[a' - 1]! e3[p]! = false) ∧ Kp L [(0, v), (1, .int .i64 a'), (2, .int .i64 b'), (3, .int .i64 l1), (8, .bool wb), (9, .bool wp), (10, .int .i64 ((b' - a' : Nat))), (11, .int .i64 p), (87, .bool t)]) ?_ ?_
  · refine Wk.caser 75 rfl (fun hc => ?_) (fun hc => ?_)
    · have h0 : 0 < a' := by simp at hc; omega
      clear hc
      (repeat (first | refine go ?_ | with_reducible intro _))
      refine Wk.iaP (a' - 1) rfl rfl rfl rfl (by repeat (first | exact Rem.head | apply Rem.tail)) rfl rfl (by omega) (by omega) ?_
      refine Wk.loadOlp (cs := [_]) rfl rfl (by repeat (first | exact Rem.head | apply Rem.tail)) (Go.Proofs.J.ic_get (by first | omega | (simp only [Array.size_setIfInBounds, Go.Proofs.J.swp_size]; omega))) rfl rfl rfl ?_
      (repeat (first | refine go ?_ | with_reducible intro _))
      refine Wk.iaP (p) rfl rfl rfl rfl (by repeat (first | exact Rem.head | apply Rem.tail)) rfl rfl (by omega) (by omega) ?_
      refine Wk.loadOlp (cs := [_]) rfl rfl (by repeat (first | exact Rem.head | apply Rem.tail)) (Go.Proofs.J.ic_get (by first | omega | (simp only [Array.size_setIfInBounds, Go.Proofs.J.swp_size]; omega))) rfl rfl rfl ?_
      (repeat (first | refine go ?_ | with_reducible intro _))
      refine Wk.call rfl rfl (Spl.none _) (sLess) (by kernel_rfl) rfl rfl ?_
      rintro v' Z' A' hz ⟨rfl, rfl, rfl⟩
      (repeat (first | refine go ?_ | with_reducible intro _))
      exact Wk.inv ⟨rfl, rfl, !ltInt e3[a' - 1]! e3[p]!, (fun h => ⟨h0, by simpa using h⟩), (by repeat (first | exact trivial | refine And.intro rfl ?_ | refine And.intro (kpI rfl (by omega)) ?_))⟩
    · (repeat (first | refine go ?_ | with_reducible intro _))
      exact Wk.inv ⟨rfl, rfl, false, (fun h => by cases h), (by repeat (first | exact trivial | refine And.intro rfl ?_ | refine And.intro (kpI rfl (by omega)) ?_))⟩
  rintro L Z' A' - ⟨rfl, rfl, t, ht, hk⟩
  refine Wk.kp hk ?_
  clear hk
  (repeat (first | refine go ?_ | with_reducible intro _))
  refine Wk.cond rfl (fun hc => ?_) (fun hc => ?_)
  · obtain ⟨h0, hlt⟩ := ht hc
    obtain ⟨mid, d4, hx⟩ : ∃ mid d4, partitionEqual ltInt e3 a' b' p = (mid, d4) := ⟨_, _, rfl⟩
    obtain ⟨r1, r2, r3, r4, r5⟩ := round_eq swo (partitionEqual_holds ltInt) h0 hpa hpb (by omega) hB3 hlt hx
    (repeat (first | refine go ?_ | with_reducible intro _))
    refine Wk.call rfl rfl (.l .nil) (partitionEq_ he3 hpa hpb hb' hs) rfl rfl rfl ?_
    rw [hx]
    rintro v' Z' A' hz ⟨rfl, rfl, rfl⟩
    (repeat (first | refine go ?_ | with_reducible intro _))
    refine Wk.inv ⟨_, by omega, mid, b', l1, wb, wp, d4, by omega, rfl, r2, hb', hl1, by rw [r3]; exact he3, r4, fun R h1 h2 => ?_, rfl, rfl, (by repeat (first | exact trivial | refine And.intro rfl ?_ | refine And.intro (kpI rfl (by omega)) ?_))⟩
    obtain ⟨q1, q2⟩ := r5 R h1 h2
    exact hG R (permIn_trans _ _ _ _ _ hp3 q1) q2
  obtain ⟨mid, ap, d4, hx⟩ : ∃ mid ap d4, partition ltInt e3 a' b' p = (mid, ap, d4) := ⟨_, _, _, rfl⟩
  obtain ⟨r1, r2, r3, r4, r5, r6, r7⟩ := round_part swo (partition_holds ltInt) hpa hpb (by omega) hB3 hx
  clear hc ht
  (repeat (first | refine go ?_ | with_reducible intro _))
  refine Wk.call rfl rfl (.l .nil) (partition_ he3 hpa hpb hb' hs) rfl rfl rfl ?_
  rw [hx]
  rintro v' Z' A' hz ⟨rfl, rfl, rfl⟩
  (repeat (first | refine go ?_ | with_reducible intro _))
  refine Wk.cond rfl (fun hc => ?_) (fun hc => ?_)
  · clear hc
    (repeat (first | refine go ?_ | with_reducible intro _))
    refine Wk.call rfl rfl (.l .nil) (ih (mid - a') (by omega) (n := n) (a := a') (b := mid) (lim := l1) (d := d4) (Nat.le_refl _) (by rw [r3]; exact he3) r1 (by omega) hs hl1 r4) rfl rfl rfl ?_
    rintro v' Z' A' hz ⟨rfl, f, f1, f2, rfl⟩
    obtain ⟨k1, k2⟩ := r6 f f1 f2
    (repeat (first | refine go ?_ | with_reducible intro _))
    refine Wk.inv ⟨_, by omega, mid + 1, b', l1, _, ap, f, by omega, rfl, by omega, hb', hl1, by rw [f1.1, r3]; exact he3, k1, fun R h1 h2 => ?_, rfl, rfl, (by repeat (first | exact trivial | refine And.intro rfl ?_ | refine And.intro (kpI rfl (by omega)) ?_))⟩
    obtain ⟨q1, q2⟩ := k2 R h1 h2
    exact hG R (permIn_trans _ _ _ _ _ hp3 q1) q2
  · clear hc
    (repeat (first | refine go ?_ | with_reducible intro _))
    refine Wk.call rfl rfl (.l .nil) (ih (b' - (mid + 1)) (by omega) (n := n) (a := mid + 1) (b := b') (lim := l1) (d := d4) (Nat.le_refl _) (by rw [r3]; exact he3) (by omega) hb' hs hl1 r5) rfl rfl rfl ?_
    rintro v' Z' A' hz ⟨rfl, f, f1, f2, rfl⟩
    obtain ⟨k1, k2⟩ := r7 f f1 f2
    (repeat (first | refine go ?_ | with_reducible intro _))
    refine Wk.inv ⟨_, by omega, a', mid, l1, _, ap, f, by omega, rfl, by omega, by omega, hl1, by rw [f1.1, r3]; exact he3, k1, fun R h1 h2 => ?_, rfl, rfl, (by repeat (first | exact trivial | refine And.intro rfl ?_ | refine And.intro (kpI rfl (by omega)) ?_))⟩
    obtain ⟨q1, q2⟩ := k2 R h1 h2
    exact hG R (permIn_trans _ _ _ _ _ hp3 q1) q2
theorem pdq_ : ∀ N : Nat, Pdq N := by
  intro N
  induction N using Nat.strongRecOn with
  | ind N ih => exact pdq_step swo_ltInt ih
end Go.Proofs.J
/- slices.Sort of numbers. -/
namespace Go.Proofs.J
open Go.Ev Go Go.Sort
set_option linter.unusedVariables false
set_option maxHeartbeats 4000000
theorem sort_ {Z : Zone} {b0 n : Nat} {ad : Option Addr} {cp : Nat} {d : Array Int} (hn : d.size = n) (h1 : 1 ≤ n) (hs : n ≤ 1000000) :
    Cz M (.func (.func 54) #[] #[]) [.slice ad n cp] Z [olp b0 1 (.slice ad n cp) n (ic d)] (fun v' Z' A' => Z = Z' ∧ ∃ e, PermIn 0 n d e ∧ SortedIn ltInt 0 n e ∧ A' = [olp b0 1 (.slice ad n cp) n (ic e)]) := by
  refine Cz.fn (f := Tryz.f54) (by kernel_rfl) rfl rfl rfl _ rfl ?_
  (repeat (first | refine go ?_ | with_reducible intro _))
  refine Wk.conv rfl rfl rfl (u64_small (c := n) (by omega) (by omega)) rfl rfl rfl ?_
  (repeat (first | refine go ?_ | with_reducible intro _))
  refine Wk.call rfl rfl (Spl.none _) (len_ n h1 (by omega)) rfl rfl rfl ?_
  rintro v' Z' A' hz ⟨⟨r, rfl, h2, h3⟩, rfl, rfl⟩
  (repeat (first | refine go ?_ | with_reducible intro _))
  refine Wk.call rfl rfl (.l .nil) (pdq_ n (n := n) (a := 0) (b := n) (lim := r) (d := d) (by omega) hn (by omega) (Nat.le_refl _) hs h3 (.inl rfl)) rfl rfl rfl ?_
  rintro v' Z' A' hz ⟨rfl, e, g1, g2, rfl⟩
  (repeat (first | refine go ?_ | with_reducible intro _))
  refine Wk.done ⟨_, Rs.nil, _, Sub.refl _, rfl, e, g1, g2, rfl⟩
theorem len64_0 {Z : Zone} : Cz M (.func (.func 152) #[] #[]) [.int .u64 0] Z [] (fun v' Z' A' => v' = .int .i64 0 ∧ Z = Z' ∧ A' = []) := by
  refine Cz.fn (f := Tryz.f152) (by kernel_rfl) rfl rfl rfl _ rfl ?_
  (repeat (first | refine go ?_ | with_reducible intro _))
  refine Wk.ixStr (j := 0) (s := lenTab) (w := 0) rfl rfl (by kernel_rfl) (by decide) (by kernel_rfl) rfl rfl ?_
  refine Wk.conv rfl rfl rfl (wrap_small (c := 0) (by omega) (by omega)) rfl rfl rfl ?_
  (repeat (first | refine go ?_ | with_reducible intro _))
  refine Wk.ret ⟨_, Rs.tmp rfl Rs.nil, _, Sub.none _, by simp [outOf], rfl, rfl⟩
theorem len0 {Z : Zone} : Cz M (.func (.func 106) #[] #[]) [.int .u64 0] Z [] (fun v' Z' A' => v' = .int .i64 0 ∧ Z = Z' ∧ A' = []) := by
  refine Cz.fn (f := Tryz.f106) (by kernel_rfl) rfl rfl rfl _ rfl ?_
  (repeat (first | refine go ?_ | with_reducible intro _))
  refine Wk.call rfl rfl (Spl.none _) (len64_0) rfl rfl rfl ?_
  rintro v' Z' A' hz ⟨rfl, rfl, rfl⟩
  (repeat (first | refine go ?_ | with_reducible intro _))
  refine Wk.ret ⟨_, Rs.tmp rfl Rs.nil, _, Sub.none _, by simp [outOf], rfl, rfl⟩
theorem sort0 {Z : Zone} {b0 : Nat} {ad : Option Addr} {cp : Nat} {d : Array Int} (hn : d.size = 0) :
    Cz M (.func (.func 54) #[] #[]) [.slice ad 0 cp] Z [olp b0 1 (.slice ad 0 cp) 0 (ic d)] (fun v' Z' A' => Z = Z' ∧ ∃ e, PermIn 0 0 d e ∧ SortedIn ltInt 0 0 e ∧ A' = [olp b0 1 (.slice ad 0 cp) 0 (ic e)]) := by
  refine Cz.fn (f := Tryz.f54) (by kernel_rfl) rfl rfl rfl _ rfl ?_
  (repeat (first | refine go ?_ | with_reducible intro _))
  refine Wk.conv rfl rfl rfl (u64_small (c := 0) (by omega) (by omega)) rfl rfl rfl ?_
  (repeat (first | refine go ?_ | with_reducible intro _))
  refine Wk.call rfl rfl (Spl.none _) len0 rfl rfl rfl ?_
  rintro v' Z' A' hz ⟨rfl, rfl, rfl⟩
  (repeat (first | refine go ?_ | with_reducible intro _))
  refine Wk.call rfl rfl (.l .nil) (pdq_ 0 (n := 0) (a := 0) (b := 0) (lim := 0) (d := d) (by omega) hn (by omega) (Nat.le_refl _) (by omega) (by omega) (.inl rfl)) rfl rfl rfl ?_
  rintro v' Z' A' hz ⟨rfl, e, g1, g2, rfl⟩
  (repeat (first | refine go ?_ | with_reducible intro _))
  refine Wk.done ⟨_, Rs.nil, _, Sub.refl _, rfl, e, g1, g2, rfl⟩
theorem sortInts {Z : Zone} {b0 n : Nat} {ad : Option Addr} {cp : Nat} {d : Array Int} (hn : d.size = n) (hs : n ≤ 1000000) :
    Cz M (.func (.func 54) #[] #[]) [.slice ad n cp] Z [olp b0 1 (.slice ad n cp) n (ic d)] (fun v' Z' A' => Z = Z' ∧ ∃ e, PermIn 0 n d e ∧ SortedIn ltInt 0 n e ∧ A' = [olp b0 1 (.slice ad n cp) n (ic e)]) := by
  by_cases h : n = 0
  · subst h
    exact sort0 hn
  · exact sort_ hn (by omega) hs
end Go.Proofs.J
