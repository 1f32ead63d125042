/- OA -/
import Derived.Test.YthgknlmmibamaaaGreatEvF
import Derived.Test.YthgknlmmibamaaaGreatJTab
namespace Go.Proofs.J
attribute [local irreducible] Go.Ev.Wk
open Go Go.Ev
set_option linter.unusedVariables false
set_option linter.unusedSimpArgs false
def lowc (w : UInt8) : Prop := 97 ≤ w.toNat ∧ w.toNat ≤ 122
def digc (w : UInt8) : Prop := 48 ≤ w.toNat ∧ w.toNat ≤ 57
instance (w : UInt8) : Decidable (lowc w) := by unfold lowc; infer_instance
instance (w : UInt8) : Decidable (digc w) := by unfold digc; infer_instance
def IsName (s : ByteArray) : Prop := 1 ≤ s.size ∧ s.size ≤ 12 ∧ ∀ i (h : i < s.size), lowc s[i] ∨ (digc s[i] ∧ i ≠ 0)
def wordL : List ByteArray := [⟨#[102, 108, 97, 103]⟩, ⟨#[109, 97, 120]⟩, ⟨#[115, 101, 116]⟩, ⟨#[111, 110, 99, 101]⟩, ⟨#[109, 97, 112]⟩, ⟨#[112, 97, 105, 114]⟩]
def IsTableName (s : ByteArray) : Prop := IsName s ∧ s ∉ wordL
structure Tbl where
 name : ByteArray
 elems : List ByteArray
 above : List (List Int)
 wrong : List Bool
def RowOk (n : Nat) (l : List Int) : Prop := (∀ i (h : i < l.length), 0 ≤ l[i] ∧ l[i] < n) ∧ ∀ i (h : i + 1 < l.length), l[i] < l[i + 1]
def Tbl.Ok (t : Tbl) : Prop :=
 IsTableName t.name ∧ 1 ≤ t.elems.length ∧ t.elems.length ≤ 12 ∧ t.above.length = t.elems.length ∧ t.wrong.length = t.elems.length ∧
 (∀ i (h : i < t.elems.length), IsName t.elems[i]) ∧ (∀ i j (h : i < t.elems.length) (hj : j < i), t.elems[j] ≠ t.elems[i]) ∧ ∀ i (h : i < t.above.length), RowOk t.elems.length t.above[i]
def Tbl.E (t : Tbl) (a b : Nat) : Prop := ∃ h : a < t.above.length, (b : Int) ∈ t.above[a]
inductive Tbl.St (t : Tbl) : Nat → Nat → Prop
 | one {a b : Nat} (h : t.E a b) : Tbl.St t a b
 | more {a b c : Nat} (h : Tbl.St t a b) (k : t.E b c) : Tbl.St t a c
def Tbl.Bl (t : Tbl) (a b : Nat) : Prop := a = b ∨ t.St a b
def Tbl.Jn (t : Tbl) (a b c : Nat) : Prop := c < t.elems.length ∧ t.Bl a c ∧ t.Bl b c ∧ ∀ d, d < t.elems.length → t.Bl a d → t.Bl b d → t.Bl c d
def Tbl.wr (t : Tbl) (a : Nat) : Prop := t.wrong[a]? = some true
def Tbl.Lat (t : Tbl) : Prop :=
 (∀ a, a < t.elems.length → ¬ t.St a a) ∧ (∀ a, a < t.elems.length → t.Bl 0 a) ∧ (∀ a b, a < b → b < t.elems.length → ∃ c, t.Jn a b c) ∧
 ¬ t.wr 0 ∧ ∀ a b, a < t.elems.length → b < t.elems.length → t.wr a → t.Bl a b → t.wr b
inductive Shp where
 | mk (kind : Int) (name : ByteArray) (kids : List Shp)
def Shp.kind : Shp → Int | .mk k _ _ => k
def Shp.name : Shp → ByteArray | .mk _ n _ => n
def Shp.kids : Shp → List Shp | .mk _ _ l => l
mutual
def Shp.levels : Shp → Nat
 | .mk _ _ l => levelsL l + 1
def levelsL : List Shp → Nat
 | [] => 0
 | s :: r => max s.levels (levelsL r)
end
def kidsOf (k : Int) : Option Nat := if k = 1 ∨ k = 2 ∨ k = 3 ∨ k = 4 ∨ k = 5 then some 0 else if k = 6 then some 1 else if k = 7 then some 2 else none
mutual
def Shp.Ok : Shp → Prop
 | .mk k n l => kidsOf k = some l.length ∧ (k = 5 → IsTableName n) ∧ (k ≠ 5 → n.size = 0) ∧ ShpOkL l
def ShpOkL : List Shp → Prop
 | [] => True
 | s :: r => s.Ok ∧ ShpOkL r
end
mutual
def Shp.Named (ts : List Tbl) : Shp → Prop
 | .mk k n l => (k = 5 → ∃ t ∈ ts, t.name = n) ∧ ShpNamedL ts l
def ShpNamedL (ts : List Tbl) : List Shp → Prop
 | [] => True
 | s :: r => s.Named ts ∧ ShpNamedL ts r
end
theorem ShpOkL_iff : ∀ {l : List Shp}, ShpOkL l ↔ ∀ s ∈ l, s.Ok
 | [] => by simp [ShpOkL]
 | s :: r => by simp [ShpOkL, ShpOkL_iff (l := r)]
theorem ShpNamedL_iff {ts : List Tbl} : ∀ {l : List Shp}, ShpNamedL ts l ↔ ∀ s ∈ l, s.Named ts
 | [] => by simp [ShpNamedL]
 | s :: r => by simp [ShpNamedL, ShpNamedL_iff (l := r)]
theorem levelsL_le : ∀ {l : List Shp} {n : Nat}, levelsL l ≤ n ↔ ∀ s ∈ l, s.levels ≤ n
 | [], n => by simp [levelsL]
 | s :: r, n => by simp [levelsL, Nat.max_le, levelsL_le (l := r)]
open Classical in
noncomputable def CSE (l : List Tbl) (s : Shp) : Int :=
 if 8 < l.length ∨ 4 < s.levels then 5
 else if ¬ ((∀ t ∈ l, t.Ok) ∧ s.Ok) then 4
 else if ¬ (∀ i j (h : i < l.length) (hj : j < i), l[j].name ≠ l[i].name) then 6
 else if ¬ (∀ t ∈ l, t.Lat) then 12
 else if ¬ s.Named l then 7
 else 0
theorem Tbl.St.trans {t : Tbl} {a b c : Nat} (h : t.St a b) (k : t.St b c) : t.St a c := by
 induction k with
 | one k => exact .more h k
 | more _ k ih => exact .more ih k
theorem Tbl.E.lt {t : Tbl} {a b : Nat} (h : t.E a b) (ok : t.Ok) : b < t.elems.length := by
 obtain ⟨h1, h2⟩ := h
 obtain ⟨i, hi, e⟩ := List.getElem_of_mem h2
 have := ((ok.2.2.2.2.2.2.2 a h1).1 i hi)
 rw [e] at this; omega
theorem Tbl.St.lt {t : Tbl} {a b : Nat} (h : t.St a b) (ok : t.Ok) : b < t.elems.length := by
 cases h with
 | one h => exact h.lt ok
 | more _ h => exact h.lt ok
theorem Tbl.St.ind {t : Tbl} {a : Nat} {P : Nat → Prop} (h1 : ∀ b, t.E a b → P b) (h2 : ∀ b c, P b → t.E b c → P c) {b : Nat} (h : t.St a b) : P b := by
 induction h with
 | one h => exact h1 _ h
 | more _ k ih => exact h2 _ _ ih k
theorem RowOk.length {n : Nat} {l : List Int} (h : RowOk n l) : l.length ≤ n := by
 have key : ∀ i (hi : i < l.length), (i : Int) ≤ l[i] := by
  intro i
  induction i with
  | zero => intro hi; exact (h.1 0 hi).1
  | succ i ih => intro hi; have := ih (by omega); have := h.2 i hi; omega
 cases e : l.length with
 | zero => omega
 | succ k =>
  have h1 := key k (by omega)
  have h2 := (h.1 k (by omega)).2
  omega
def Rows (Z : Zone) (v : Value) (xss : List (List Int)) : Prop := ∃ us, Sl Z 1 v xss.length us ∧ ∀ i (h : i < xss.length), ∃ u, us[i]? = some u ∧ Sl Z 1 u xss[i].length (xss[i].map (Value.int .i64))
theorem Rows.mono {Z Z' : Zone} {v : Value} {xss : List (List Int)} (e : Ext Z Z') (h : Rows Z v xss) : Rows Z' v xss :=
 let ⟨us, h1, h2⟩ := h; ⟨us, h1.mono e, fun i hi => let ⟨u, k1, k2⟩ := h2 i hi; ⟨u, k1, k2.mono e⟩⟩
structure TbR (Z : Zone) (nm : ByteArray) (ve va vw : Value) (t : Tbl) : Prop where
 name : nm = t.name
 elems : Sl Z 1 ve t.elems.length (t.elems.map Value.string)
 above : Rows Z va t.above
 wrong : Sl Z 1 vw t.wrong.length (t.wrong.map Value.bool)
theorem TbR.mono {Z Z' : Zone} {nm : ByteArray} {ve va vw : Value} {t : Tbl} (e : Ext Z Z') (h : TbR Z nm ve va vw t) : TbR Z' nm ve va vw t :=
 ⟨h.name, h.elems.mono e, h.above.mono e, h.wrong.mono e⟩
structure Tbl.Sm (t : Tbl) : Prop where
 name : t.name.size ≤ 1000000
 elems : t.elems.length ≤ 1000000
 each : ∀ s ∈ t.elems, s.size ≤ 1000000
 above : t.above.length ≤ 1000000
 rows : ∀ l ∈ t.above, l.length ≤ 1000000
 wrong : t.wrong.length ≤ 1000000
def Ers (v : Value) (p : Prop) (n : Int) : Prop := (p ∧ v = .int .i64 0) ∨ (¬ p ∧ v = .int .i64 n)
theorem okCells_int (l : List Int) : okCells (l.map (Value.int .i64)) = true := by
 simp only [okCells, List.all_map, List.all_eq_true]; intro x _; rfl
theorem okCells_bool (l : List Bool) : okCells (l.map Value.bool) = true := by
 simp only [okCells, List.all_map, List.all_eq_true]; intro x _; rfl
theorem rep_bool (n : Nat) : repCells [Value.bool false] n = (List.replicate n false).map Value.bool := by
 induction n with
 | zero => rfl
 | succ n ih => simp only [repCells, ih, List.replicate_succ, List.map_cons]; rfl
structure Bfs (t : Tbl) (a : Nat) (been : List Bool) (todo : List Int) : Prop where
 len : been.length = t.elems.length
 s1 : ∀ b, been[b]? = some true → t.St a b
 s2 : ∀ c ∈ todo, ∃ k : Nat, c = k ∧ t.St a k
 s3 : ∀ b, t.E a b → been[b]? = some true ∨ (b : Int) ∈ todo
 s4 : ∀ b c, been[b]? = some true → t.E b c → been[c]? = some true ∨ (c : Int) ∈ todo
theorem Bfs.init {t : Tbl} {a : Nat} (ha : a < t.above.length) (ok : t.Ok) : Bfs t a (List.replicate t.elems.length false) t.above[a] where
 len := by simp
 s1 := fun b h => by simp [List.getElem?_replicate] at h
 s2 := fun c hc => by
  obtain ⟨i, hi, e⟩ := List.getElem_of_mem hc
  have := (ok.2.2.2.2.2.2.2 a ha).1 i hi
  rw [e] at this
  have e2 : ((c.toNat : Nat) : Int) = c := Int.toNat_of_nonneg this.1
  exact ⟨c.toNat, e2.symm, .one ⟨ha, by rw [e2]; exact hc⟩⟩
 s3 := fun b ⟨_, h⟩ => .inr h
 s4 := fun b c h => by simp [List.getElem?_replicate] at h
theorem Bfs.skip {t : Tbl} {a : Nat} {been : List Bool} {k : Nat} {todo : List Int} (h : Bfs t a been ((k : Int) :: todo)) (hk : been[k]? = some true) : Bfs t a been todo where
 len := h.len
 s1 := h.s1
 s2 := fun c hc => h.s2 c (List.mem_cons_of_mem _ hc)
 s3 := fun b hb => by
  rcases h.s3 b hb with q | q
  ·exact .inl q
  ·rcases List.mem_cons.1 q with q | q
   ·obtain rfl : b = k := by omega
    exact .inl hk
   ·exact .inr q
 s4 := fun b c hb hc => by
  rcases h.s4 b c hb hc with q | q
  ·exact .inl q
  ·rcases List.mem_cons.1 q with q | q
   ·obtain rfl : c = k := by omega
    exact .inl hk
   ·exact .inr q
theorem set_get {been : List Bool} {k b : Nat} (hk : k < been.length) : (been.set k true)[b]? = some true ↔ b = k ∨ been[b]? = some true := by
 rw [List.getElem?_set]
 by_cases e : k = b
 ·subst e; simp [hk]
 ·simp [e]; intro h; exact absurd h.symm e
theorem Bfs.mark {t : Tbl} {a : Nat} {been : List Bool} {k : Nat} {todo : List Int} (h : Bfs t a been ((k : Int) :: todo)) (ok : t.Ok) (hk : k < t.above.length) : Bfs t a (been.set k true) (todo ++ t.above[k]) := by
 obtain ⟨k', e, hst⟩ := h.s2 _ (List.mem_cons_self ..)
 obtain rfl : k' = k := by omega
 have hk' : k' < been.length := by rw [h.len, ← ok.2.2.2.1]; exact hk
 exact {
  len := by simp [h.len]
  s1 := fun b hb => by
   rcases (set_get hk').1 hb with rfl | hb
   ·exact hst
   ·exact h.s1 b hb
  s2 := fun c hc => by
   rcases List.mem_append.1 hc with hc | hc
   ·exact h.s2 c (List.mem_cons_of_mem _ hc)
   ·obtain ⟨i, hi, e⟩ := List.getElem_of_mem hc
    have := (ok.2.2.2.2.2.2.2 k' hk).1 i hi
    rw [e] at this
    have e2 : ((c.toNat : Nat) : Int) = c := Int.toNat_of_nonneg this.1
    exact ⟨c.toNat, e2.symm, .more hst ⟨hk, by rw [e2]; exact hc⟩⟩
  s3 := fun b hb => by
   rcases h.s3 b hb with q | q
   ·exact .inl ((set_get hk').2 (.inr q))
   ·rcases List.mem_cons.1 q with q | q
    ·exact .inl ((set_get hk').2 (.inl (by omega)))
    ·exact .inr (List.mem_append.2 (.inl q))
  s4 := fun b c hb hc => by
   rcases (set_get hk').1 hb with rfl | hb
   ·obtain ⟨_, hc⟩ := hc
    exact .inr (List.mem_append.2 (.inr hc))
   ·rcases h.s4 b c hb hc with q | q
    ·exact .inl ((set_get hk').2 (.inr q))
    ·rcases List.mem_cons.1 q with q | q
     ·exact .inl ((set_get hk').2 (.inl (by omega)))
     ·exact .inr (List.mem_append.2 (.inl q)) }
theorem Bfs.done {t : Tbl} {a : Nat} {been : List Bool} (h : Bfs t a been []) (b : Nat) : been[b]? = some true ↔ t.St a b := by
 refine ⟨h.s1 b, fun hs => ?_⟩
 refine hs.ind (P := fun b => been[b]? = some true) (fun b hb => ?_) (fun b c hb hc => ?_)
 ·rcases h.s3 b hb with q | q
  ·exact q
  ·cases q
 ·rcases h.s4 b c hb hc with q | q
  ·exact q
  ·cases q
theorem count_mark {been : List Bool} {k : Nat} (hk : k < been.length) (h : been[k] = false) : (been.set k true).count false + 1 = been.count false := by
 have hp : 0 < been.count false := List.count_pos_iff.2 (h ▸ List.getElem_mem hk)
 rw [List.count_set hk, h]
 simp
 omega
theorem set_cells {α : Type} (f : α → Value) (l : List α) (k : Nat) (x : α) (h : k < l.length) : setCells (l.map f) (k * 1) [f x] = some ((l.set k x).map f) := by
 unfold setCells
 rw [if_pos (by simp; omega), List.set_eq_take_append_cons_drop, if_pos h]
 simp
theorem olp_bool {Z : Zone} {b n : Nat} {s : List Cel} (h : (pt b (.cells (repCells [Value.bool false] n) true 0)).p Z s) : Sat Z [olp b 1 (.slice (some ⟨b, 0, none⟩) n n) n ((List.replicate n false).map Value.bool)] s := by
 rw [rep_bool] at h
 exact Sat.one ⟨0, n, _, rfl, Nat.le_refl _, by simp, by rw [List.take_of_length_le (by simp)], .inl rfl, okCells_bool _, h⟩
structure TabR (Z : Zone) (b : Nat) (t : Tbl) : Prop where
 ok : t.Ok
 sm : t.Sm
 rep : ∃ nm ve va vw vs us, Z b = some (.cells [.string nm, ve, va, vw, vs] true 0) ∧ TbR Z nm ve va vw t ∧ Sl Z 1 vs t.elems.length us ∧
  ∀ a, a < t.elems.length → ∃ (u : Value) (l : List Bool), us[a]? = some u ∧ Sl Z 1 u t.elems.length (l.map Value.bool) ∧ l.length = t.elems.length ∧ ∀ c : Nat, l[c]? = some true ↔ t.St a c
theorem TabR.mono {Z Z' : Zone} {b : Nat} {t : Tbl} (e : Ext Z Z') (h : TabR Z b t) : TabR Z' b t :=
 ⟨h.ok, h.sm, let ⟨nm, ve, va, vw, vs, us, h1, h2, h3, h4⟩ := h.rep; ⟨nm, ve, va, vw, vs, us, e _ _ h1, h2.mono e, h3.mono e, fun a ha => let ⟨u, l, k1, k2, k3⟩ := h4 a ha; ⟨u, l, k1, k2.mono e, k3⟩⟩⟩
def nats (l : List Nat) : List Value := l.map fun a : Nat => Value.int .i64 ((a : Nat) : Int)
theorem nats_get {l : List Nat} {i : Nat} (h : i < l.length) : (nats l)[i]? = some (.int .i64 (l[i] : Nat)) := by simp [nats, h]
structure Whe (n : Nat) (p : Nat → Prop) (l : List Nat) : Prop where
 mem : ∀ a, a ∈ l ↔ a < n ∧ p a
 asc : l.Pairwise (· < ·)
theorem Whe.len {n : Nat} {p : Nat → Prop} {l : List Nat} (h : Whe n p l) : l.length ≤ n := by
 have hp := List.pairwise_iff_getElem.1 h.asc
 have key : ∀ i (hi : i < l.length), i ≤ l[i] := by
  intro i
  induction i with
  | zero => intro hi; omega
  | succ i ih => intro hi; have := ih (by omega); have := hp i (i + 1) (by omega) hi (by omega); omega
 cases e : l.length with
 | zero => omega
 | succ k =>
  have h1 := key k (by omega)
  have h2 := ((h.mem l[k]).1 (List.getElem_mem (by omega))).1
  omega
theorem Whe.nil {p : Nat → Prop} : Whe 0 p [] := ⟨fun a => by simp, .nil⟩
theorem Whe.snoc {j : Nat} {p : Nat → Prop} {l : List Nat} (h : Whe j p l) (hp : p j) : Whe (j + 1) p (l ++ [j]) := by
 refine ⟨fun a => ?_, ?_⟩
 ·rw [List.mem_append, h.mem, List.mem_singleton]
  constructor
  ·rintro (⟨h1, h2⟩ | rfl)
   ·exact ⟨by omega, h2⟩
   ·exact ⟨by omega, hp⟩
  ·rintro ⟨h1, h2⟩
   by_cases e : a = j
   ·exact .inr e
   ·exact .inl ⟨by omega, h2⟩
 ·rw [List.pairwise_append]
  exact ⟨h.asc, by simp, fun a ha b hb => by rw [List.mem_singleton] at hb; subst hb; exact ((h.mem a).1 ha).1⟩
theorem Whe.skip {j : Nat} {p : Nat → Prop} {l : List Nat} (h : Whe j p l) (hp : ¬ p j) : Whe (j + 1) p l := by
 refine ⟨fun a => ?_, h.asc⟩
 rw [h.mem]
 constructor
 ·rintro ⟨h1, h2⟩; exact ⟨by omega, h2⟩
 ·rintro ⟨h1, h2⟩
  by_cases e : a = j
  ·subst e; exact absurd h2 hp
  ·exact ⟨by omega, h2⟩
theorem nats_snoc (l : List Nat) (a : Nat) : nats (l ++ [a]) = nats l ++ [.int .i64 (a : Int)] := by simp [nats]
mutual
def ShR (Z : Zone) : Shp → List Value → Prop
 | .mk k n l, cs => ∃ vk us, cs = [.int .u8 k, .string n, vk] ∧ Sl Z 3 vk l.length us ∧ ShRL Z l us
def ShRL (Z : Zone) : List Shp → List Value → Prop
 | [], us => us = []
 | s :: r, us => ∃ c rest, us = c ++ rest ∧ ShR Z s c ∧ ShRL Z r rest
end
mutual
theorem ShR.mono {Z Z' : Zone} (e : Ext Z Z') : ∀ {s : Shp} {cs : List Value}, ShR Z s cs → ShR Z' s cs
 | .mk k n l, cs, h => by
  simp only [ShR] at h ⊢
  obtain ⟨vk, us, h1, h2, h3⟩ := h
  exact ⟨vk, us, h1, h2.mono e, ShRL.mono e h3⟩
theorem ShRL.mono {Z Z' : Zone} (e : Ext Z Z') : ∀ {l : List Shp} {us : List Value}, ShRL Z l us → ShRL Z' l us
 | [], us, h => by simp only [ShRL] at h ⊢; exact h
 | s :: r, us, h => by
  simp only [ShRL] at h ⊢
  obtain ⟨c, rest, h1, h2, h3⟩ := h
  exact ⟨c, rest, h1, ShR.mono e h2, ShRL.mono e h3⟩
end
theorem ShR.form {Z : Zone} {s : Shp} {cs : List Value} (h : ShR Z s cs) : ∃ a c us, cs = [.int .u8 s.kind, .string s.name, .slice a s.kids.length c] ∧ Sl Z 3 (.slice a s.kids.length c) s.kids.length us ∧ ShRL Z s.kids us := by
 cases s with
 | mk k n l =>
  simp only [ShR] at h
  obtain ⟨vk, us, h1, h2, h3⟩ := h
  have := h2
  rcases this with ⟨rfl, h4, rfl⟩ | ⟨b, off, c, xs, wr, g, rfl, _⟩
  ·exact ⟨none, 0, [], by rw [h1]; simp only [Shp.kind, Shp.name, Shp.kids, h4], by simp only [Shp.kids, h4]; exact Sl.nil, h3⟩
  ·exact ⟨_, _, us, h1, h2, h3⟩
theorem getCells_app {c rest : List Value} : getCells (c ++ rest) 0 c.length = some c := by unfold getCells; simp
theorem ShRL.get {Z : Zone} : ∀ {l : List Shp} {us : List Value}, ShRL Z l us → ∀ i (h : i < l.length), ∃ k n a m c, getCells us (i * 3) 3 = some [.int .u8 k, .string n, .slice a m c] ∧ ShR Z l[i] [.int .u8 k, .string n, .slice a m c]
 | [], us, h, i, hi => by simp at hi
 | s :: r, us, h, 0, hi => by
  simp only [ShRL] at h
  obtain ⟨c, rest, rfl, h2, h3⟩ := h
  obtain ⟨a, cc, us', rfl, _⟩ := h2.form
  exact ⟨_, _, _, _, _, getCells_app, h2⟩
 | s :: r, us, h, i + 1, hi => by
  simp only [ShRL] at h
  obtain ⟨c, rest, rfl, h2, h3⟩ := h
  obtain ⟨k, n, a, m, cc, g1, g2⟩ := ShRL.get h3 i (by simpa using hi)
  obtain ⟨a', c', us', rfl, _⟩ := h2.form
  refine ⟨k, n, a, m, cc, ?_, g2⟩
  unfold getCells at g1 ⊢
  simp only [List.length_append, List.length_cons, List.length_nil]
  split at g1
  ·rw [if_pos (by omega)]
   have e : (i + 1) * 3 = 3 + i * 3 := by omega
   rw [e, ← List.drop_drop]
   exact g1
  ·cases g1
theorem Shp.kid_levels {s : Shp} {d : Nat} (h : s.levels ≤ d + 1) {i : Nat} (hi : i < s.kids.length) : s.kids[i].levels ≤ d := by
 cases s with
 | mk k n l =>
  simp only [Shp.levels] at h
  exact (levelsL_le (l := l)).1 (by omega) _ (List.getElem_mem hi)
theorem Shp.levels_pos (s : Shp) : 1 ≤ s.levels := by cases s; simp only [Shp.levels]; omega
def Shp.Sm : Nat → Shp → Prop
 | 0, _ => True
 | d + 1, s => s.name.size ≤ 1000000 ∧ s.kids.length ≤ 1000000 ∧ ∀ k ∈ s.kids, Shp.Sm d k
theorem levelsL_take {l : List Shp} {j : Nat} (h : j < l.length) : levelsL (l.take (j + 1)) = max (levelsL (l.take j)) l[j].levels := by
 have key : ∀ (a b : List Shp), levelsL (a ++ b) = max (levelsL a) (levelsL b) := by
  intro a b
  induction a with
  | nil => simp [levelsL]
  | cons x a ih => simp only [List.cons_append, levelsL, ih]; omega
 rw [List.take_succ_eq_append_getElem h, key]
 simp [levelsL]
def TbsR (Z : Zone) (v : Value) (ts : List Tbl) : Prop := ∃ us, Sl Z 4 v ts.length us ∧ ∀ i (h : i < ts.length), ∃ nm a1 m1 c1 a2 m2 c2 a3 m3 c3, getCells us (i * 4) 4 = some [.string nm, .slice a1 m1 c1, .slice a2 m2 c2, .slice a3 m3 c3] ∧ TbR Z nm (.slice a1 m1 c1) (.slice a2 m2 c2) (.slice a3 m3 c3) ts[i]
theorem TbsR.mono {Z Z' : Zone} {v : Value} {ts : List Tbl} (e : Ext Z Z') (h : TbsR Z v ts) : TbsR Z' v ts :=
 let ⟨us, h1, h2⟩ := h; ⟨us, h1.mono e, fun i hi => let ⟨nm, a1, m1, c1, a2, m2, c2, a3, m3, c3, k1, k2⟩ := h2 i hi; ⟨nm, a1, m1, c1, a2, m2, c2, a3, m3, c3, k1, k2.mono e⟩⟩
def kidE : List (Int × Value) := [(1, .int .i64 0), (2, .int .i64 0), (3, .int .i64 0), (4, .int .i64 0), (5, .int .i64 0), (6, .int .i64 1), (7, .int .i64 2)]
theorem kid_found (k : Int) : (∃ m : Nat, kidsOf k = some m ∧ findI .u8 k kidE 0 = some ((k - 1).toNat, .int .i64 (m : Nat))) ∨ (kidsOf k = none ∧ findI .u8 k kidE 0 = none) := by
 simp only [kidE, findI, kidsOf]
 by_cases h1 : k = 1
 ·subst h1; exact .inl ⟨0, by simp, by simp⟩
 by_cases h2 : k = 2
 ·subst h2; exact .inl ⟨0, by simp, by simp⟩
 by_cases h3 : k = 3
 ·subst h3; exact .inl ⟨0, by simp, by simp⟩
 by_cases h4 : k = 4
 ·subst h4; exact .inl ⟨0, by simp, by simp⟩
 by_cases h5 : k = 5
 ·subst h5; exact .inl ⟨0, by simp, by simp⟩
 by_cases h6 : k = 6
 ·subst h6; exact .inl ⟨1, by simp, by simp⟩
 by_cases h7 : k = 7
 ·subst h7; exact .inl ⟨2, by simp, by simp⟩
 ·exact .inr ⟨by simp [h1, h2, h3, h4, h5, h6, h7], by simp [h1, h2, h3, h4, h5, h6, h7]⟩
theorem ShRL.rws {Z : Zone} {l : List Shp} {us : List Value} (h : ShRL Z l us) : ∃ cs : Nat → List Value, ∀ i (hi : i < l.length), getCells us (i * 3) 3 = some (cs i) ∧ okCells (cs i) = true ∧ ShR Z l[i] (cs i) := by
 refine ⟨fun i => (getCells us (i * 3) 3).getD [], fun i hi => ?_⟩
 obtain ⟨k, n, a, m, c, g1, g2⟩ := h.get i hi
 simp only [g1, Option.getD_some]
 exact ⟨trivial, rfl, g2⟩
theorem size0 {s : ByteArray} : s.size = 0 ↔ s = ByteArray.empty := by
 constructor
 ·intro h
  cases s
  simp only [ByteArray.size] at h
  simp only [Array.size_eq_zero_iff] at h
  subst h; rfl
 ·rintro rfl; rfl
theorem empty_eq : ((ByteArray.empty).toList == ({ data := #[] } : ByteArray).toList) = true := strEq.2 rfl
theorem TbsR.form {Z : Zone} {v : Value} {ts : List Tbl} (h : TbsR Z v ts) : ∃ a c, v = .slice a ts.length c := by
 obtain ⟨us, hs, _⟩ := h
 rcases hs with ⟨rfl, h0, _⟩ | ⟨b, off, c, xs, wr, g, rfl, _⟩
 ·exact ⟨none, 0, by rw [h0]⟩
 ·exact ⟨_, _, rfl⟩
theorem TbsR.rws {Z : Zone} {v : Value} {ts : List Tbl} (h : TbsR Z v ts) : ∃ (us : List Value) (cs : Nat → List Value), Sl Z 4 v ts.length us ∧ ∀ i (hi : i < ts.length), getCells us (i * 4) 4 = some (cs i) ∧ okCells (cs i) = true ∧
  ∃ a1 m1 c1 a2 m2 c2 a3 m3 c3, cs i = [.string ts[i].name, .slice a1 m1 c1, .slice a2 m2 c2, .slice a3 m3 c3] ∧ TbR Z ts[i].name (.slice a1 m1 c1) (.slice a2 m2 c2) (.slice a3 m3 c3) ts[i] := by
 obtain ⟨us, hs, hr⟩ := h
 refine ⟨us, fun i => (getCells us (i * 4) 4).getD [], hs, fun i hi => ?_⟩
 obtain ⟨nm, a1, m1, c1, a2, m2, c2, a3, m3, c3, g1, g2⟩ := hr i hi
 obtain rfl := g2.name
 simp only [g1, Option.getD_some]
 exact ⟨trivial, rfl, a1, m1, c1, a2, m2, c2, a3, m3, c3, rfl, g2⟩
theorem TbsR.take {Z : Zone} {v' : Value} {ts : List Tbl} {us : List Value} {i : Nat} (hi : i ≤ ts.length)
  (hr : ∀ i (h : i < ts.length), ∃ nm a1 m1 c1 a2 m2 c2 a3 m3 c3, getCells us (i * 4) 4 = some [.string nm, .slice a1 m1 c1, .slice a2 m2 c2, .slice a3 m3 c3] ∧ TbR Z nm (.slice a1 m1 c1) (.slice a2 m2 c2) (.slice a3 m3 c3) ts[i])
  (h : Sl Z 4 v' (i - 0) ((us.drop (0 * 4)).take ((i - 0) * 4))) : TbsR Z v' (ts.take i) := by
 have e : (ts.take i).length = i := by rw [List.length_take]; omega
 refine ⟨_, by rw [e]; simpa using h, fun j hj => ?_⟩
 rw [e] at hj
 obtain ⟨nm, a1, m1, c1, a2, m2, c2, a3, m3, c3, g1, g2⟩ := hr j (by omega)
 refine ⟨nm, a1, m1, c1, a2, m2, c2, a3, m3, c3, ?_, by rw [List.getElem_take]; exact g2⟩
 obtain ⟨k1, k2, _⟩ := getC_some g1
 unfold getCells
 have hl := h.length
 simp only [Nat.zero_mul, List.drop_zero, Nat.sub_zero] at hl
 have hji : j * 4 + 4 ≤ i * 4 := by omega
 rw [if_pos (by rw [hl]; exact hji), k2]
 rw [List.drop_take, List.take_take]
 congr 1
 congr 1
 omega
def Clo (t : Tbl) (seen : List Bool) (b : Nat) : Prop := ∀ c, t.E b c → seen[c]? = some true
structure Rb (t : Tbl) (a : Nat) (seen : List Bool) (todo : List Int) (x : Option Nat) : Prop where
 len : seen.length = t.elems.length
 s1 : ∀ b : Nat, seen[b]? = some true → t.St a b
 s2 : ∀ c ∈ todo, ∃ k : Nat, c = k ∧ (k = a ∨ t.St a k)
 s3 : (a : Int) ∈ todo ∨ x = some a ∨ Clo t seen a
 s4 : ∀ b : Nat, seen[b]? = some true → (b : Int) ∈ todo ∨ x = some b ∨ Clo t seen b
theorem Rb.init (t : Tbl) (a : Nat) : Rb t a (List.replicate t.elems.length false) [(a : Int)] none where
 len := by simp
 s1 := fun b h => by simp [List.getElem?_replicate] at h
 s2 := fun c hc => ⟨a, by simpa using hc, .inl rfl⟩
 s3 := .inl (by simp)
 s4 := fun b h => by simp [List.getElem?_replicate] at h
theorem Rb.pop {t : Tbl} {a k : Nat} {seen : List Bool} {todo : List Int} (h : Rb t a seen ((k : Int) :: todo) none) : Rb t a seen todo (some k) where
 len := h.len
 s1 := h.s1
 s2 := fun c hc => h.s2 c (List.mem_cons_of_mem _ hc)
 s3 := by
  rcases h.s3 with q | q | q
  ·rcases List.mem_cons.1 q with q | q
   ·exact .inr (.inl (by rw [show a = k by omega]))
   ·exact .inl q
  ·cases q
  ·exact .inr (.inr q)
 s4 := fun b hb => by
  rcases h.s4 b hb with q | q | q
  ·rcases List.mem_cons.1 q with q | q
   ·exact .inr (.inl (by rw [show b = k by omega]))
   ·exact .inl q
  ·cases q
  ·exact .inr (.inr q)
theorem Clo.mono {t : Tbl} {seen : List Bool} {b k : Nat} (hk : k < seen.length) (h : Clo t seen b) : Clo t (seen.set k true) b := fun c hc => (set_get hk).2 (.inr (h c hc))
theorem Rb.push {t : Tbl} {a x k : Nat} {seen : List Bool} {todo : List Int} (h : Rb t a seen todo (some x)) (hk : k < seen.length) (hst : t.St a k) : Rb t a (seen.set k true) (todo ++ [(k : Int)]) (some x) where
 len := by simp [h.len]
 s1 := fun b hb => by
  rcases (set_get hk).1 hb with rfl | hb
  ·exact hst
  ·exact h.s1 b hb
 s2 := fun c hc => by
  rcases List.mem_append.1 hc with hc | hc
  ·exact h.s2 c hc
  ·exact ⟨k, by simpa using hc, .inr hst⟩
 s3 := by
  rcases h.s3 with q | q | q
  ·exact .inl (List.mem_append.2 (.inl q))
  ·exact .inr (.inl q)
  ·exact .inr (.inr (q.mono hk))
 s4 := fun b hb => by
  rcases (set_get hk).1 hb with rfl | hb
  ·exact .inl (List.mem_append.2 (.inr (by simp)))
  ·rcases h.s4 b hb with q | q | q
   ·exact .inl (List.mem_append.2 (.inl q))
   ·exact .inr (.inl q)
   ·exact .inr (.inr (q.mono hk))
theorem Rb.closed {t : Tbl} {a x : Nat} {seen : List Bool} {todo : List Int} (h : Rb t a seen todo (some x)) (hx : Clo t seen x) : Rb t a seen todo none where
 len := h.len
 s1 := h.s1
 s2 := h.s2
 s3 := by
  rcases h.s3 with q | q | q
  ·exact .inl q
  ·cases q; exact .inr (.inr hx)
  ·exact .inr (.inr q)
 s4 := fun b hb => by
  rcases h.s4 b hb with q | q | q
  ·exact .inl q
  ·cases q; exact .inr (.inr hx)
  ·exact .inr (.inr q)
theorem Rb.done {t : Tbl} {a : Nat} {seen : List Bool} (h : Rb t a seen [] none) (b : Nat) : seen[b]? = some true ↔ t.St a b := by
 refine ⟨h.s1 b, fun hs => ?_⟩
 have ca : Clo t seen a := by
  rcases h.s3 with q | q | q
  ·cases q
  ·cases q
  ·exact q
 refine hs.ind (P := fun b => seen[b]? = some true) (fun b hb => ca b hb) (fun b c hb hc => ?_)
 rcases h.s4 b hb with q | q | q
 ·cases q
 ·cases q
 ·exact q c hc
def RelR (Z : Zone) (v : Value) (t : Tbl) : Prop := ∃ us, Sl Z 1 v t.elems.length us ∧ ∀ a, a < t.elems.length → ∃ (u : Value) (l : List Bool), us[a]? = some u ∧ Sl Z 1 u t.elems.length (l.map Value.bool) ∧ l.length = t.elems.length ∧ ∀ c : Nat, c < t.elems.length → (l[c]? = some true ↔ t.Bl a c)
theorem RelR.mono {Z Z' : Zone} {v : Value} {t : Tbl} (e : Ext Z Z') (h : RelR Z v t) : RelR Z' v t :=
 let ⟨us, h1, h2⟩ := h; ⟨us, h1.mono e, fun a ha => let ⟨u, l, k1, k2, k3⟩ := h2 a ha; ⟨u, l, k1, k2.mono e, k3⟩⟩
theorem RelR.row {Z : Zone} {t : Tbl} {us : List Value} (h2 : ∀ a, a < t.elems.length → ∃ (u : Value) (l : List Bool), us[a]? = some u ∧ Sl Z 1 u t.elems.length (l.map Value.bool) ∧ l.length = t.elems.length ∧ ∀ c : Nat, c < t.elems.length → (l[c]? = some true ↔ t.Bl a c)) (a : Nat) (ha : a < t.elems.length) :
  ∃ (u : Value) (l : List Bool), getCells us (a * 1) 1 = some [u] ∧ Sl Z 1 u t.elems.length (l.map Value.bool) ∧ l.length = t.elems.length ∧ ∀ c (hc : c < l.length), l[c] = true ↔ t.Bl a c := by
 obtain ⟨u, l, k1, k2, k3, k4⟩ := h2 a ha
 exact ⟨u, l, getCells_one (by rw [Nat.mul_one]; exact k1), k2, k3, fun c hc => by rw [← k4 c (by omega), List.getElem?_eq_getElem hc]; simp⟩
def Shp.Thin : Nat → Shp → Prop
 | 0, _ => False
 | d + 1, s => s.kids.length ≤ 4 ∧ s.name.size ≤ 30 ∧ ∀ k ∈ s.kids, Shp.Thin d k
theorem Shp.Thin.sm : ∀ {d : Nat} {s : Shp}, Shp.Thin d s → Shp.Sm d s ∧ s.levels ≤ d
 | 0, s, h => h.elim
 | d + 1, s, h => by
  obtain ⟨h1, h2, h3⟩ := h
  refine ⟨⟨by omega, by omega, fun k hk => (Shp.Thin.sm (h3 k hk)).1⟩, ?_⟩
  cases s with
  | mk k n l =>
   simp only [Shp.levels]
   have := levelsL_le.2 fun k hk => (Shp.Thin.sm (h3 k hk)).2
   simp only [Shp.kids] at this
   omega
structure Tbl.Th (t : Tbl) : Prop where
 elems : t.elems.length ≤ 20
 above : t.above.length ≤ 20
 wrong : t.wrong.length ≤ 20
 name : t.name.size ≤ 30
 each : ∀ i (h : i < t.elems.length), t.elems[i].size ≤ 30
 rows : ∀ i (h : i < t.above.length), t.above[i].length ≤ 20
theorem Tbl.Th.sm {t : Tbl} (h : t.Th) : t.Sm where
 name := by have := h.name; omega
 elems := by have := h.elems; omega
 each := fun s hs => by obtain ⟨i, hi, rfl⟩ := List.getElem_of_mem hs; have := h.each i hi; omega
 above := by have := h.above; omega
 rows := fun s hs => by obtain ⟨i, hi, rfl⟩ := List.getElem_of_mem hs; have := h.rows i hi; omega
 wrong := by have := h.wrong; omega
abbrev Lat := List Tbl × Shp
structure Lat.Th (l : Lat) : Prop where
 few : ¬ (4 < l.1.length ∧ l.1.length ≤ 8) ∧ l.1.length ≤ 10
 shape : Shp.Thin 6 l.2
 tables : ∀ i (h : i < l.1.length), (l.1[i]).Th
def LatR (Z : Zone) (cs : List Value) (l : Lat) : Prop := ∃ vt cs', cs = vt :: cs' ∧ TbsR Z vt l.1 ∧ ShR Z l.2 cs'
theorem LatR.mono {Z Z' : Zone} {cs : List Value} {l : Lat} (e : Ext Z Z') (h : LatR Z cs l) : LatR Z' cs l := let ⟨vt, cs', h1, h2, h3⟩ := h; ⟨vt, cs', h1, h2.mono e, h3.mono e⟩
theorem LatR.form {Z : Zone} {cs : List Value} {l : Lat} (h : LatR Z cs l) : ∃ a1 c1 a2 c2, cs = [.slice a1 l.1.length c1, .int .u8 l.2.kind, .string l.2.name, .slice a2 l.2.kids.length c2] ∧ TbsR Z (.slice a1 l.1.length c1) l.1 ∧ ShR Z l.2 [.int .u8 l.2.kind, .string l.2.name, .slice a2 l.2.kids.length c2] := by
 obtain ⟨vt, cs', rfl, h2, h3⟩ := h
 obtain ⟨a1, c1, rfl⟩ := h2.form
 obtain ⟨a2, c2, us, rfl, _⟩ := h3.form
 exact ⟨a1, c1, a2, c2, rfl, h2, h3⟩
def LatsR (Z : Zone) (v : Value) (ls : List Lat) : Prop := ∃ us, Sl Z 4 v ls.length us ∧ ∀ i (h : i < ls.length), ∃ cs, getCells us (i * 4) 4 = some cs ∧ LatR Z cs ls[i]
theorem LatsR.mono {Z Z' : Zone} {v : Value} {ls : List Lat} (e : Ext Z Z') (h : LatsR Z v ls) : LatsR Z' v ls := let ⟨us, h1, h2⟩ := h; ⟨us, h1.mono e, fun i hi => let ⟨cs, k1, k2⟩ := h2 i hi; ⟨cs, k1, k2.mono e⟩⟩
theorem LatsR.form {Z : Zone} {v : Value} {ts : List Lat} (h : LatsR Z v ts) : ∃ a c, v = .slice a ts.length c := by
 obtain ⟨us, hs, _⟩ := h
 rcases hs with ⟨rfl, h0, _⟩ | ⟨b, off, c, xs, wr, g, rfl, _⟩
 ·exact ⟨none, 0, by rw [h0]⟩
 ·exact ⟨_, _, rfl⟩
structure LatsTh (ls : List Lat) : Prop where
 few : ls.length ≤ 8
 each : ∀ i (h : i < ls.length), (ls[i]).Th
noncomputable def firstE : List Lat → Int
 | [] => 0
 | l :: r => if CSE l.1 l.2 ≠ 0 then CSE l.1 l.2 else firstE r
theorem firstE_at : ∀ {ls : List Lat} (j : Nat) (h : j < ls.length), (∀ x, x < j → ∀ hx : x < ls.length, CSE ls[x].1 ls[x].2 = 0) → CSE ls[j].1 ls[j].2 ≠ 0 → firstE ls = CSE ls[j].1 ls[j].2
 | [], j, h, _, _ => by simp at h
 | l :: r, 0, h, _, k => by simp only [List.getElem_cons_zero] at k ⊢; rw [firstE, if_pos k]
 | l :: r, j + 1, h, k0, k => by
  simp only [List.getElem_cons_succ] at k ⊢
  have h0 := k0 0 (by omega) (by simp)
  simp only [List.getElem_cons_zero] at h0
  rw [firstE, if_neg (by rw [h0]; simp)]
  exact firstE_at j (by simpa using h) (fun x hx hl => by have := k0 (x + 1) (by omega) (by simpa using hl); simpa using this) k
theorem firstE_all : ∀ {ls : List Lat}, (∀ x (hx : x < ls.length), CSE ls[x].1 ls[x].2 = 0) → firstE ls = 0
 | [], _ => rfl
 | l :: r, k0 => by
  have h0 := k0 0 (by simp)
  simp only [List.getElem_cons_zero] at h0
  rw [firstE, if_neg (by rw [h0]; simp)]
  exact firstE_all fun x hx => by have := k0 (x + 1) (by simpa using hx); simpa using this
open Classical in
noncomputable def LsE (ls : List Lat) : Int := if ls.length = 0 ∨ 6 < ls.length then 5 else firstE ls
theorem Lat.Th.chk {l : Lat} (h : l.Th) : l.1.length ≤ 1000000 ∧ (∀ t ∈ l.1, t.Sm) ∧ l.2.levels ≤ 6 ∧ Shp.Sm 6 l.2 :=
 ⟨by have := h.few.2; omega, fun t ht => by obtain ⟨i, hi, rfl⟩ := List.getElem_of_mem ht; exact (h.tables i hi).sm, h.shape.sm.2, h.shape.sm.1⟩
theorem ShRL.snoc {Z : Zone} {s : Shp} {c : List Value} (h : ShR Z s c) : ∀ {l : List Shp} {us : List Value}, ShRL Z l us → ShRL Z (l ++ [s]) (us ++ c)
 | [], us, k => by simp only [ShRL] at k; subst k; simp only [List.nil_append, ShRL]; exact ⟨c, [], by simp, h, rfl⟩
 | x :: r, us, k => by
  simp only [ShRL] at k
  obtain ⟨c0, rest, rfl, k2, k3⟩ := k
  simp only [List.cons_append, ShRL]
  exact ⟨c0, rest ++ c, by simp, k2, ShRL.snoc h k3⟩
inductive El where
 | mk (kind n : Int) (keys : List Int) (kids : List El)
def El.kind : El → Int | .mk k _ _ _ => k
def El.n : El → Int | .mk _ n _ _ => n
def El.keys : El → List Int | .mk _ _ l _ => l
def El.kids : El → List El | .mk _ _ _ l => l
mutual
def El.levels : El → Nat
 | .mk _ _ _ l => elLevelsL l + 1
def elLevelsL : List El → Nat
 | [] => 0
 | s :: r => max s.levels (elLevelsL r)
end
theorem elLevelsL_le : ∀ {l : List El} {n : Nat}, elLevelsL l ≤ n ↔ ∀ s ∈ l, s.levels ≤ n
 | [], n => by simp [elLevelsL]
 | s :: r, n => by simp [elLevelsL, Nat.max_le, elLevelsL_le (l := r)]
theorem El.levels_pos (s : El) : 1 ≤ s.levels := by cases s; simp only [El.levels]; omega
theorem El.kid_levels {s : El} {d : Nat} (h : s.levels ≤ d + 1) {i : Nat} (hi : i < s.kids.length) : s.kids[i].levels ≤ d := by
 cases s with
 | mk k n ks l =>
  simp only [El.levels] at h
  exact (elLevelsL_le (l := l)).1 (by omega) _ (List.getElem_mem hi)
def El.Sm : Nat → El → Prop
 | 0, _ => True
 | d + 1, s => s.keys.length ≤ 17592186044416 ∧ s.kids.length ≤ 2199023255552 ∧ (-9223372036854775808 ≤ s.n ∧ s.n ≤ 9223372036854775807) ∧ (0 ≤ s.kind ∧ s.kind ≤ 255) ∧ (∀ k ∈ s.keys, -9223372036854775808 ≤ k ∧ k ≤ 9223372036854775807) ∧ ∀ k ∈ s.kids, El.Sm d k
mutual
def ElR (Z : Zone) : El → List Value → Prop
 | .mk k n ks l, cs => ∃ vk vl us, cs = [.int .u8 k, .int .i64 n, vk, vl] ∧ Sl Z 1 vk ks.length (ks.map (Value.int .i64)) ∧ Sl Z 4 vl l.length us ∧ ElRL Z l us
def ElRL (Z : Zone) : List El → List Value → Prop
 | [], us => us = []
 | s :: r, us => ∃ c rest, us = c ++ rest ∧ ElR Z s c ∧ ElRL Z r rest
end
mutual
theorem ElR.mono {Z Z' : Zone} (e : Ext Z Z') : ∀ {s : El} {cs : List Value}, ElR Z s cs → ElR Z' s cs
 | .mk k n ks l, cs, h => by
  simp only [ElR] at h ⊢
  obtain ⟨vk, vl, us, h1, h0, h2, h3⟩ := h
  exact ⟨vk, vl, us, h1, h0.mono e, h2.mono e, ElRL.mono e h3⟩
theorem ElRL.mono {Z Z' : Zone} (e : Ext Z Z') : ∀ {l : List El} {us : List Value}, ElRL Z l us → ElRL Z' l us
 | [], us, h => by simp only [ElRL] at h ⊢; exact h
 | s :: r, us, h => by
  simp only [ElRL] at h ⊢
  obtain ⟨c, rest, h1, h2, h3⟩ := h
  exact ⟨c, rest, h1, ElR.mono e h2, ElRL.mono e h3⟩
end
theorem ElR.form {Z : Zone} {s : El} {cs : List Value} (h : ElR Z s cs) : ∃ a1 c1 a2 c2 us, cs = [.int .u8 s.kind, .int .i64 s.n, .slice a1 s.keys.length c1, .slice a2 s.kids.length c2] ∧
  Sl Z 1 (.slice a1 s.keys.length c1) s.keys.length (s.keys.map (Value.int .i64)) ∧ Sl Z 4 (.slice a2 s.kids.length c2) s.kids.length us ∧ ElRL Z s.kids us := by
 cases s with
 | mk k n ks l =>
  simp only [ElR] at h
  obtain ⟨vk, vl, us, rfl, h0, h2, h3⟩ := h
  obtain ⟨a1, c1, rfl⟩ := h0.form
  obtain ⟨a2, c2, rfl⟩ := h2.form
  exact ⟨a1, c1, a2, c2, us, rfl, h0, h2, h3⟩
theorem ElR.of {Z : Zone} {s : El} {vk vl : Value} {us : List Value} (h0 : Sl Z 1 vk s.keys.length (s.keys.map (Value.int .i64))) (h : Sl Z 4 vl s.kids.length us) (k : ElRL Z s.kids us) : ElR Z s [.int .u8 s.kind, .int .i64 s.n, vk, vl] := by
 cases s; simp only [ElR]; exact ⟨vk, vl, us, rfl, h0, h, k⟩
theorem ElRL.snoc {Z : Zone} {s : El} {c : List Value} (h : ElR Z s c) : ∀ {l : List El} {us : List Value}, ElRL Z l us → ElRL Z (l ++ [s]) (us ++ c)
 | [], us, k => by simp only [ElRL] at k; subst k; simp only [List.nil_append, ElRL]; exact ⟨c, [], by simp, h, rfl⟩
 | x :: r, us, k => by
  simp only [ElRL] at k
  obtain ⟨c0, rest, rfl, k2, k3⟩ := k
  simp only [List.cons_append, ElRL]
  exact ⟨c0, rest ++ c, by simp, k2, ElRL.snoc h k3⟩
theorem ElRL.get {Z : Zone} : ∀ {l : List El} {us : List Value}, ElRL Z l us → ∀ i (h : i < l.length), ∃ k n a1 m1 c1 a2 m2 c2, getCells us (i * 4) 4 = some [.int .u8 k, .int .i64 n, .slice a1 m1 c1, .slice a2 m2 c2] ∧ ElR Z l[i] [.int .u8 k, .int .i64 n, .slice a1 m1 c1, .slice a2 m2 c2]
 | [], us, h, i, hi => by simp at hi
 | s :: r, us, h, 0, hi => by
  simp only [ElRL] at h
  obtain ⟨c, rest, rfl, h2, h3⟩ := h
  obtain ⟨a1, c1, a2, c2, us', rfl, _⟩ := h2.form
  exact ⟨_, _, _, _, _, _, _, _, getCells_app, h2⟩
 | s :: r, us, h, i + 1, hi => by
  simp only [ElRL] at h
  obtain ⟨c, rest, rfl, h2, h3⟩ := h
  obtain ⟨k, n, a1, m1, c1, a2, m2, c2, g1, g2⟩ := ElRL.get h3 i (by simpa using hi)
  obtain ⟨b1, d1, b2, d2, us', rfl, _⟩ := h2.form
  refine ⟨k, n, a1, m1, c1, a2, m2, c2, ?_, g2⟩
  unfold getCells at g1 ⊢
  simp only [List.length_append, List.length_cons, List.length_nil]
  split at g1
  ·rw [if_pos (by omega)]
   have e : (i + 1) * 4 = 4 + i * 4 := by omega
   rw [e, ← List.drop_drop]
   exact g1
  ·cases g1
def ElsR (Z : Zone) (v : Value) (l : List El) : Prop := ∃ us, Sl Z 4 v l.length us ∧ ElRL Z l us
theorem ElsR.mono {Z Z' : Zone} {v : Value} {l : List El} (e : Ext Z Z') (h : ElsR Z v l) : ElsR Z' v l := let ⟨us, h1, h2⟩ := h; ⟨us, h1.mono e, h2.mono e⟩
theorem ElsR.form {Z : Zone} {v : Value} {l : List El} (h : ElsR Z v l) : ∃ a c, v = .slice a l.length c := let ⟨_, h1, _⟩ := h; h1.form
mutual
theorem El.eq_iff : ∀ (a b : El), a = b ↔ a.kind = b.kind ∧ a.n = b.n ∧ a.keys = b.keys ∧ a.kids = b.kids
 | .mk _ _ _ _, .mk _ _ _ _ => by simp [El.kind, El.n, El.keys, El.kids]
end
structure El.Fit (d : Nat) (e : El) : Prop where
 lv : e.levels ≤ d
 sm : e.Sm d
theorem El.Fit.kid {d : Nat} {e : El} (h : e.Fit (d + 1)) {i : Nat} (hi : i < e.kids.length) : (e.kids[i]).Fit d := ⟨El.kid_levels h.lv hi, h.sm.2.2.2.2.2 _ (List.getElem_mem hi)⟩
theorem El.Fit.pos {e : El} (h : e.Fit 0) : False := by have := h.lv; have := e.levels_pos; omega
theorem nextQ {p : Nat → Prop} {j : Nat} (h : ∀ x, x < j → p x) (k : p j) : ∀ x, x < j + 1 → p x := fun x hx => by
 rcases Nat.lt_or_ge x j with q | q
 ·exact h x q
 ·have : x = j := by omega
  subst this; exact k
def El.Bot (e : El) : Prop := e.kind = 0 ∧ e.n = 0 ∧ e.keys.length = 0 ∧ e.kids.length = 0
instance (e : El) : Decidable e.Bot := by unfold El.Bot; infer_instance
def NumOk (a : Int) : Prop := -1000000000 ≤ a ∧ a ≤ 1000000000
instance (a : Int) : Decidable (NumOk a) := by unfold NumOk; infer_instance
def KeyAt (l : List Int) (i : Nat) : Prop := ∃ a, l[i]? = some a ∧ NumOk a ∧ ∀ j b, i = j + 1 → l[j]? = some b → b < a
def KeysOk (l : List Int) : Prop := 1 ≤ l.length ∧ l.length ≤ 40 ∧ ∀ i, i < l.length → KeyAt l i
theorem KeyAt.zero {l : List Int} (h : 0 < l.length) : KeyAt l 0 ↔ NumOk l[0] := by
 constructor
 ·rintro ⟨a, h1, h2, _⟩
  rw [List.getElem?_eq_getElem h] at h1
  cases h1; exact h2
 ·exact fun k => ⟨_, List.getElem?_eq_getElem h, k, fun j b e => by omega⟩
theorem KeyAt.succ {l : List Int} {i : Nat} (h : i + 1 < l.length) : KeyAt l (i + 1) ↔ NumOk l[i + 1] ∧ l[i] < l[i + 1] := by
 constructor
 ·rintro ⟨a, h1, h2, h3⟩
  rw [List.getElem?_eq_getElem h] at h1
  cases h1
  exact ⟨h2, h3 i _ rfl (List.getElem?_eq_getElem (by omega))⟩
 ·rintro ⟨k1, k2⟩
  refine ⟨_, List.getElem?_eq_getElem h, k1, fun j b e hb => ?_⟩
  obtain rfl : i = j := by omega
  rw [List.getElem?_eq_getElem (by omega)] at hb
  cases hb; exact k2
def Tof (ts : List Tbl) (n : ByteArray) (t : Tbl) : Prop := ∃ i, ∃ h : i < ts.length, ts[i] = t ∧ t.name = n ∧ ∀ j (hj : j < i), ts[j].name ≠ n
theorem Tof.uniq {ts : List Tbl} {n : ByteArray} {t u : Tbl} (h : Tof ts n t) (k : Tof ts n u) : t = u := by
 obtain ⟨i, hi, e1, n1, m1⟩ := h
 obtain ⟨j, hj, e2, n2, m2⟩ := k
 have : i = j := by
  rcases Nat.lt_trichotomy i j with q | q | q
  ·exact absurd (by rw [e1]; exact n1) (m2 i q)
  ·exact q
  ·exact absurd (by rw [e2]; exact n2) (m1 j q)
 subst this
 exact e1.symm.trans e2
def El.Bare (e : El) : Prop := e.keys.length = 0 ∧ e.kids.length = 0
instance (e : El) : Decidable e.Bare := by unfold El.Bare; infer_instance
def IsE (ts : List Tbl) : Nat → Shp → El → Prop
 | 0, _, _ => False
 | d + 1, s, e => e.Bot ∨ (e.kind = 1 ∧ s.kind = 1 ∧ e.n = 0 ∧ e.Bare) ∨ (e.kind = 3 ∧ s.kind = 4 ∧ e.n = 0 ∧ e.Bare) ∨ (e.kind = 2 ∧ (s.kind = 2 ∨ s.kind = 4) ∧ NumOk e.n ∧ e.Bare) ∨
   (e.kind = 4 ∧ s.kind = 5 ∧ (∃ t, Tof ts s.name t ∧ 1 ≤ e.n ∧ e.n < t.elems.length) ∧ e.Bare) ∨
   (e.kind = 5 ∧ s.kind = 3 ∧ e.n = 0 ∧ e.kids.length = 0 ∧ KeysOk e.keys) ∨
   (e.kind = 6 ∧ s.kind = 6 ∧ e.n = 0 ∧ KeysOk e.keys ∧ e.kids.length = e.keys.length ∧ ∀ i (h : i < e.kids.length), ¬ (e.kids[i]).Bot ∧ ∃ h2 : 0 < s.kids.length, IsE ts d s.kids[0] e.kids[i]) ∨
   (e.kind = 7 ∧ s.kind = 7 ∧ e.n = 0 ∧ e.keys.length = 0 ∧ e.kids.length = 2 ∧ ∃ (h : 1 < e.kids.length) (h2 : 1 < s.kids.length), IsE ts d s.kids[0] e.kids[0] ∧ IsE ts d s.kids[1] e.kids[1] ∧ ¬ ((e.kids[0]).Bot ∧ (e.kids[1]).Bot))
def Inc (l : List Int) : Prop := l.Pairwise (· < ·)
structure Ks (l : List Int) : Prop where
 ne : l ≠ []
 num : ∀ k ∈ l, NumOk k
 inc : Inc l
theorem keysOk_iff {l : List Int} : KeysOk l ↔ Ks l ∧ l.length ≤ 40 := by
 constructor
 ·rintro ⟨h1, h2, h3⟩
  refine ⟨⟨by intro e; subst e; simp at h1, ?_, ?_⟩, h2⟩
  ·intro k hk
   obtain ⟨i, hi, rfl⟩ := List.getElem_of_mem hk
   obtain ⟨a, e, n, _⟩ := h3 i hi
   rw [List.getElem?_eq_getElem hi] at e
   cases e; exact n
  ·have step : ∀ i (h : i + 1 < l.length), l[i] < l[i + 1] := fun i h => ((KeyAt.succ h).1 (h3 _ h)).2
   have far : ∀ n i (h : i + n + 1 < l.length), l[i] < l[i + n + 1] := by
    intro n
    induction n with
    | zero => exact fun i h => step i h
    | succ n ih => intro i h; have := ih i (by omega); have := step (i + n + 1) (by omega); simp only [Nat.add_assoc] at *; omega
   refine List.pairwise_iff_getElem.2 fun i j hi hj hij => ?_
   have := far (j - i - 1) i (by omega)
   simp only [show i + (j - i - 1) + 1 = j by omega] at this
   exact this
 ·rintro ⟨⟨h1, h2, h3⟩, h4⟩
  refine ⟨by cases l <;> simp_all, h4, fun i hi => ?_⟩
  cases i with
  | zero => exact (KeyAt.zero hi).2 (h2 _ (List.getElem_mem hi))
  | succ i => exact (KeyAt.succ hi).2 ⟨h2 _ (List.getElem_mem hi), List.pairwise_iff_getElem.1 h3 _ _ _ _ (by omega)⟩
theorem Tbl.Bl.refl {t : Tbl} (a : Nat) : t.Bl a a := .inl rfl
theorem Tbl.Bl.trans {t : Tbl} {a b c : Nat} (h : t.Bl a b) (k : t.Bl b c) : t.Bl a c := by
 rcases h with rfl | h
 ·exact k
 ·rcases k with rfl | k
  ·exact .inr h
  ·exact .inr (h.trans k)
theorem Tof.mem {ts : List Tbl} {n : ByteArray} {t : Tbl} (h : Tof ts n t) : t ∈ ts := by
 obtain ⟨i, hi, rfl, _⟩ := h; exact List.getElem_mem hi
end Go.Proofs.J
namespace Go.Proofs.J
attribute [local irreducible] Go.Ev.Wk
open Go Go.Ev
set_option linter.unusedVariables false
set_option linter.unusedSimpArgs false
def El.bot : El := .mk 0 0 [] []
theorem El.Bot_iff {e : El} : e.Bot ↔ e = El.bot := by
 cases e with
 | mk k n ks l => simp [El.Bot, El.kind, El.n, El.keys, El.kids, El.bot]
open Classical in
noncomputable instance : DecidableEq El := fun a b => Classical.propDecidable _
def IsW (ts : List Tbl) : Nat → Shp → El → Prop
 | 0, _, _ => False
 | d + 1, s, e => e = El.bot ∨
   (s.kind = 1 ∧ e = .mk 1 0 [] []) ∨
   (s.kind = 2 ∧ ∃ n, NumOk n ∧ e = .mk 2 n [] []) ∨
   (s.kind = 4 ∧ ((∃ n, NumOk n ∧ e = .mk 2 n [] []) ∨ e = .mk 3 0 [] [])) ∨
   (s.kind = 5 ∧ ∃ (t : Tbl) (n : Nat), Tof ts s.name t ∧ 1 ≤ n ∧ n < t.elems.length ∧ e = .mk 4 n [] []) ∨
   (s.kind = 3 ∧ ∃ ks, Ks ks ∧ e = .mk 5 0 ks []) ∨
   (s.kind = 6 ∧ ∃ k0 ks l, s.kids[0]? = some k0 ∧ Ks ks ∧ l.length = ks.length ∧ (∀ x ∈ l, x ≠ El.bot ∧ IsW ts d k0 x) ∧ e = .mk 6 0 ks l) ∨
   (s.kind = 7 ∧ ∃ k0 k1 x y, s.kids[0]? = some k0 ∧ s.kids[1]? = some k1 ∧ IsW ts d k0 x ∧ IsW ts d k1 y ∧ ¬ (x = El.bot ∧ y = El.bot) ∧ e = .mk 7 0 [] [x, y])
theorem IsW.bot {ts : List Tbl} {d : Nat} {s : Shp} : IsW ts (d + 1) s El.bot := by rw [IsW]; exact .inl rfl
section inv
variable {ts : List Tbl} {d : Nat} {s : Shp} {e : El}
theorem IsW.inv1 (h : IsW ts (d + 1) s e) (n : e ≠ El.bot) (k : s.kind = 1) : e = .mk 1 0 [] [] := by simpa [IsW, n, k] using h
theorem IsW.inv2 (h : IsW ts (d + 1) s e) (n : e ≠ El.bot) (k : s.kind = 2) : ∃ m, NumOk m ∧ e = .mk 2 m [] [] := by simpa [IsW, n, k] using h
theorem IsW.inv4 (h : IsW ts (d + 1) s e) (n : e ≠ El.bot) (k : s.kind = 4) : (∃ m, NumOk m ∧ e = .mk 2 m [] []) ∨ e = .mk 3 0 [] [] := by simpa [IsW, n, k] using h
theorem IsW.inv5 (h : IsW ts (d + 1) s e) (n : e ≠ El.bot) (k : s.kind = 5) : ∃ (t : Tbl) (n : Nat), Tof ts s.name t ∧ 1 ≤ n ∧ n < t.elems.length ∧ e = .mk 4 n [] [] := by simpa [IsW, n, k] using h
theorem IsW.inv3 (h : IsW ts (d + 1) s e) (n : e ≠ El.bot) (k : s.kind = 3) : ∃ ks, Ks ks ∧ e = .mk 5 0 ks [] := by simpa [IsW, n, k] using h
theorem IsW.inv6 (h : IsW ts (d + 1) s e) (n : e ≠ El.bot) (k : s.kind = 6) : ∃ k0 ks l, s.kids[0]? = some k0 ∧ Ks ks ∧ l.length = ks.length ∧ (∀ x ∈ l, x ≠ El.bot ∧ IsW ts d k0 x) ∧ e = .mk 6 0 ks l := by
 rw [IsW] at h
 rcases h with h | ⟨q, _⟩ | ⟨q, _⟩ | ⟨q, _⟩ | ⟨q, _⟩ | ⟨q, _⟩ | ⟨q, h⟩ | ⟨q, _⟩
 ·exact absurd h n
 all_goals first | exact h | (rw [k] at q; exact absurd q (by decide))
theorem IsW.inv7 (h : IsW ts (d + 1) s e) (n : e ≠ El.bot) (k : s.kind = 7) : ∃ k0 k1 x y, s.kids[0]? = some k0 ∧ s.kids[1]? = some k1 ∧ IsW ts d k0 x ∧ IsW ts d k1 y ∧ ¬ (x = El.bot ∧ y = El.bot) ∧ e = .mk 7 0 [] [x, y] := by
 rw [IsW] at h
 rcases h with h | ⟨q, _⟩ | ⟨q, _⟩ | ⟨q, _⟩ | ⟨q, _⟩ | ⟨q, _⟩ | ⟨q, _⟩ | ⟨q, h⟩
 ·exact absurd h n
 all_goals first | exact h | (rw [k] at q; exact absurd q (by decide))
theorem IsW.kinds (h : IsW ts (d + 1) s e) (n : e ≠ El.bot) : s.kind = 1 ∨ s.kind = 2 ∨ s.kind = 4 ∨ s.kind = 5 ∨ s.kind = 3 ∨ s.kind = 6 ∨ s.kind = 7 := by
 rw [IsW] at h
 rcases h with h | ⟨q, _⟩ | ⟨q, _⟩ | ⟨q, _⟩ | ⟨q, _⟩ | ⟨q, _⟩ | ⟨q, _⟩ | ⟨q, _⟩ <;> simp_all
theorem IsW.of1 (k : s.kind = 1) : IsW ts (d + 1) s (.mk 1 0 [] []) := by rw [IsW]; exact .inr (.inl ⟨k, rfl⟩)
theorem IsW.of2 {m : Int} (k : s.kind = 2) (h : NumOk m) : IsW ts (d + 1) s (.mk 2 m [] []) := by rw [IsW]; exact .inr (.inr (.inl ⟨k, m, h, rfl⟩))
theorem IsW.of4 {m : Int} (k : s.kind = 4) (h : NumOk m) : IsW ts (d + 1) s (.mk 2 m [] []) := by rw [IsW]; exact .inr (.inr (.inr (.inl ⟨k, .inl ⟨m, h, rfl⟩⟩)))
theorem IsW.of4c (k : s.kind = 4) : IsW ts (d + 1) s (.mk 3 0 [] []) := by rw [IsW]; exact .inr (.inr (.inr (.inl ⟨k, .inr rfl⟩)))
theorem IsW.of5 {t : Tbl} {m : Nat} (k : s.kind = 5) (h : Tof ts s.name t) (h1 : 1 ≤ m) (h2 : m < t.elems.length) : IsW ts (d + 1) s (.mk 4 m [] []) := by rw [IsW]; exact .inr (.inr (.inr (.inr (.inl ⟨k, t, m, h, h1, h2, rfl⟩))))
theorem IsW.of3 {ks : List Int} (k : s.kind = 3) (h : Ks ks) : IsW ts (d + 1) s (.mk 5 0 ks []) := by rw [IsW]; exact .inr (.inr (.inr (.inr (.inr (.inl ⟨k, ks, h, rfl⟩)))))
theorem IsW.of6 {k0 : Shp} {ks : List Int} {l : List El} (k : s.kind = 6) (h0 : s.kids[0]? = some k0) (h : Ks ks) (hl : l.length = ks.length) (hx : ∀ x ∈ l, x ≠ El.bot ∧ IsW ts d k0 x) : IsW ts (d + 1) s (.mk 6 0 ks l) := by
 rw [IsW]; exact .inr (.inr (.inr (.inr (.inr (.inr (.inl ⟨k, k0, ks, l, h0, h, hl, hx, rfl⟩))))))
theorem IsW.of7 {k0 k1 : Shp} {x y : El} (k : s.kind = 7) (h0 : s.kids[0]? = some k0) (h1 : s.kids[1]? = some k1) (hx : IsW ts d k0 x) (hy : IsW ts d k1 y) (hn : ¬ (x = El.bot ∧ y = El.bot)) : IsW ts (d + 1) s (.mk 7 0 [] [x, y]) := by
 rw [IsW]; exact .inr (.inr (.inr (.inr (.inr (.inr (.inr ⟨k, k0, k1, x, y, h0, h1, hx, hy, hn, rfl⟩))))))
end inv
section eqs
variable {ts : List Tbl} {d : Nat} {s : Shp} {a b : El}
end eqs
open Classical in
noncomputable def once (a b : El) : El := if a.kind = 2 ∧ b.kind = 2 ∧ a.n = b.n then a else .mk 3 0 [] []
end Go.Proofs.J
namespace Go.Proofs.J
attribute [local irreducible] Go.Ev.Wk
open Go Go.Ev
set_option linter.unusedVariables false
set_option linter.unusedSimpArgs false
mutual
def El.Great : El → Prop
 | .mk _ _ ks l => 40 < ks.length ∨ GreatL l
def GreatL : List El → Prop
 | [] => False
 | e :: r => e.Great ∨ GreatL r
end
theorem GreatL_iff : ∀ {l : List El}, GreatL l ↔ ∃ e ∈ l, e.Great
 | [] => by simp [GreatL]
 | e :: r => by simp [GreatL, GreatL_iff (l := r)]
theorem El.Great_iff {e : El} : e.Great ↔ 40 < e.keys.length ∨ ∃ x ∈ e.kids, x.Great := by
 cases e; simp only [El.Great, GreatL_iff, El.keys, El.kids]
theorem Great_flat {k n : Int} {ks : List Int} : (El.mk k n ks []).Great ↔ 40 < ks.length := by rw [El.Great_iff]; simp [El.keys, El.kids]
theorem bot_not_great : ¬ El.bot.Great := by rw [El.bot, Great_flat]; simp
theorem IsE_iff {ts : List Tbl} : ∀ {d : Nat} {s : Shp} {e : El}, IsE ts d s e ↔ IsW ts d s e ∧ ¬ e.Great
 | 0, s, e => by simp [IsE, IsW]
 | d + 1, s, e => by
  cases e with
  | mk k n ks l =>
  constructor
  ·intro h
   rw [IsE] at h
   rcases h with h | ⟨h1, h2, h3, h4⟩ | ⟨h1, h2, h3, h4⟩ | ⟨h1, h2, h3, h4⟩ | ⟨h1, h2, ⟨t, h3, h5, h6⟩, h4⟩ | ⟨h1, h2, h3, h4, h5⟩ | ⟨h1, h2, h3, h4, h5, h6⟩ | ⟨h1, h2, h3, h4, h5, h6⟩
   ·rw [El.Bot_iff.1 h]; exact ⟨IsW.bot, bot_not_great⟩
   all_goals simp only [El.kind, El.n, El.keys, El.kids, El.Bare] at *
   ·obtain ⟨ha, hb⟩ := h4
    obtain rfl := List.length_eq_zero_iff.1 ha
    obtain rfl := List.length_eq_zero_iff.1 hb
    subst h1 h3
    exact ⟨IsW.of1 h2, by simp [Great_flat]⟩
   ·obtain ⟨ha, hb⟩ := h4
    obtain rfl := List.length_eq_zero_iff.1 ha
    obtain rfl := List.length_eq_zero_iff.1 hb
    subst h1 h3
    exact ⟨IsW.of4c h2, by simp [Great_flat]⟩
   ·obtain ⟨ha, hb⟩ := h4
    obtain rfl := List.length_eq_zero_iff.1 ha
    obtain rfl := List.length_eq_zero_iff.1 hb
    subst h1
    refine ⟨?_, by simp [Great_flat]⟩
    rcases h2 with q | q
    ·exact IsW.of2 q h3
    ·exact IsW.of4 q h3
   ·obtain ⟨ha, hb⟩ := h4
    obtain rfl := List.length_eq_zero_iff.1 ha
    obtain rfl := List.length_eq_zero_iff.1 hb
    subst h1
    obtain ⟨m, rfl⟩ : ∃ m : Nat, n = m := ⟨n.toNat, by omega⟩
    exact ⟨IsW.of5 h2 h3 (by omega) (by omega), by simp [Great_flat]⟩
   ·obtain rfl := List.length_eq_zero_iff.1 h4
    subst h1 h3
    have := keysOk_iff.1 h5
    exact ⟨IsW.of3 h2 this.1, by simp [Great_flat]; omega⟩
   ·subst h1 h3
    have hk := keysOk_iff.1 h4
    have hpos : 0 < l.length := by have := h4.1; omega
    obtain ⟨_, h0, _⟩ := h6 0 hpos
    have all : ∀ x ∈ l, (x ≠ El.bot ∧ IsW ts d s.kids[0] x) ∧ ¬ x.Great := by
     intro x hx
     obtain ⟨i, hi, rfl⟩ := List.getElem_of_mem hx
     obtain ⟨q1, _, q2⟩ := h6 i hi
     have := IsE_iff.1 q2
     exact ⟨⟨fun q => q1 (El.Bot_iff.2 q), this.1⟩, this.2⟩
    refine ⟨IsW.of6 h2 (List.getElem?_eq_getElem h0) hk.1 h5 fun x hx => (all x hx).1, ?_⟩
    rw [El.Great_iff]
    rintro (q | ⟨x, hx, q⟩)
    ·simp only [El.keys] at q; omega
    ·exact (all x hx).2 q
   ·subst h1 h3
    obtain rfl := List.length_eq_zero_iff.1 h4
    obtain ⟨h, h2', q1, q2, q3⟩ := h6
    match l, h5, h, q1, q2, q3 with
    | [x, y], _, h, q1, q2, q3 =>
     have i1 := IsE_iff.1 q1
     have i2 := IsE_iff.1 q2
     refine ⟨IsW.of7 h2 (List.getElem?_eq_getElem (by omega)) (List.getElem?_eq_getElem h2') i1.1 i2.1 fun q => q3 ⟨El.Bot_iff.2 q.1, El.Bot_iff.2 q.2⟩, ?_⟩
     rw [El.Great_iff]
     rintro (q | ⟨z, hz, q⟩)
     ·simp [El.keys] at q
     ·simp only [El.kids, List.mem_cons, List.not_mem_nil, or_false] at hz
      rcases hz with rfl | rfl
      ·exact i1.2 q
      ·exact i2.2 q
  ·rintro ⟨h, g⟩
   by_cases nb : El.mk k n ks l = El.bot
   ·rw [IsE]; exact .inl (El.Bot_iff.2 nb)
   rcases h.kinds nb with q | q | q | q | q | q | q
   ·have := h.inv1 nb q; cases this
    rw [IsE]; exact .inr (.inl ⟨rfl, q, rfl, rfl, rfl⟩)
   ·obtain ⟨m, hm, e⟩ := h.inv2 nb q; cases e
    rw [IsE]; exact .inr (.inr (.inr (.inl ⟨rfl, .inl q, hm, rfl, rfl⟩)))
   ·rcases h.inv4 nb q with ⟨m, hm, e⟩ | e
    ·cases e; rw [IsE]; exact .inr (.inr (.inr (.inl ⟨rfl, .inr q, hm, rfl, rfl⟩)))
    ·cases e; rw [IsE]; exact .inr (.inr (.inl ⟨rfl, q, rfl, rfl, rfl⟩))
   ·obtain ⟨t, m, h1, h2, h3, e⟩ := h.inv5 nb q; cases e
    rw [IsE]; exact .inr (.inr (.inr (.inr (.inl ⟨rfl, q, ⟨t, h1, by show (1 : Int) ≤ m; omega, by show (m : Int) < _; omega⟩, rfl, rfl⟩))))
   ·obtain ⟨ks, h1, e⟩ := h.inv3 nb q; cases e
    rw [El.Great_iff, not_or] at g
    rw [IsE]; exact .inr (.inr (.inr (.inr (.inr (.inl ⟨rfl, q, rfl, rfl, keysOk_iff.2 ⟨h1, by have := g.1; simp only [El.keys] at this ⊢; omega⟩⟩)))))
   ·obtain ⟨k0, ks, l, h0, h1, hl, hx, e⟩ := h.inv6 nb q; cases e
    rw [El.Great_iff, not_or] at g
    obtain ⟨hp, e0⟩ := List.getElem?_eq_some_iff.1 h0
    subst e0
    rw [IsE]; refine .inr (.inr (.inr (.inr (.inr (.inr (.inl ⟨rfl, q, rfl, keysOk_iff.2 ⟨h1, by have := g.1; simp only [El.keys] at this ⊢; omega⟩, hl, fun i hi => ?_⟩))))))
    have := hx _ (List.getElem_mem hi)
    exact ⟨fun r => this.1 (El.Bot_iff.1 r), hp, IsE_iff.2 ⟨this.2, fun r => g.2 ⟨_, List.getElem_mem hi, r⟩⟩⟩
   ·obtain ⟨k0, k1, x, y, h0, h1, hx, hy, hn, e⟩ := h.inv7 nb q; cases e
    rw [El.Great_iff, not_or] at g
    obtain ⟨hp0, e0⟩ := List.getElem?_eq_some_iff.1 h0
    obtain ⟨hp1, e1⟩ := List.getElem?_eq_some_iff.1 h1
    subst e0 e1
    rw [IsE]
    refine .inr (.inr (.inr (.inr (.inr (.inr (.inr ⟨rfl, q, rfl, rfl, rfl, by simp [El.kids], hp1, ?_, ?_, ?_⟩))))))
    ·exact IsE_iff.2 ⟨hx, fun r => g.2 ⟨x, by simp [El.kids], r⟩⟩
    ·exact IsE_iff.2 ⟨hy, fun r => g.2 ⟨y, by simp [El.kids], r⟩⟩
    ·exact fun r => hn ⟨El.Bot_iff.1 r.1, El.Bot_iff.1 r.2⟩
end Go.Proofs.J
namespace Go.Proofs.J
attribute [local irreducible] Go.Ev.Wk
open Go Go.Ev
set_option linter.unusedVariables false
set_option linter.unusedSimpArgs false
def countB (n : Nat) : List Int := if n < 128 then [(n : Int)] else ((n % 128 + 128 : Nat) : Int) :: countB (n / 128)
termination_by n
def zig (n : Int) : Nat := if n < 0 then (-2 * n - 1).toNat else (2 * n).toNat
def numB (n : Int) : List Int := countB (zig n)
theorem countB_ne (n : Nat) : countB n ≠ [] := by
 rw [countB]; split <;> simp
mutual
def packE : El → List Int
 | .mk k n ks l => k :: (if k = 2 then numB n else if k = 4 then countB n.toNat else if k = 5 then countB ks.length ++ ks.flatMap numB else if k = 6 then countB ks.length ++ packKs ks l else if k = 7 then packL l else [])
def packKs : List Int → List El → List Int
 | k :: ks, x :: l => numB k ++ (packE x ++ packKs ks l)
 | _, _ => []
def packL : List El → List Int
 | [] => []
 | x :: l => packE x ++ packL l
end
section
variable {n : Int} {ks : List Int} {l : List El}
theorem packE_0 : packE El.bot = [0] := by rw [El.bot, packE]; simp
theorem packE_1 : packE (.mk 1 n ks l) = [1] := by rw [packE]; simp
theorem packE_2 : packE (.mk 2 n ks l) = 2 :: numB n := by rw [packE]; simp
theorem packE_3 : packE (.mk 3 n ks l) = [3] := by rw [packE]; simp
theorem packE_4 : packE (.mk 4 n ks l) = 4 :: countB n.toNat := by rw [packE]; simp
theorem packE_5 : packE (.mk 5 n ks l) = 5 :: (countB ks.length ++ ks.flatMap numB) := by rw [packE]; simp
theorem packE_6 : packE (.mk 6 n ks l) = 6 :: (countB ks.length ++ packKs ks l) := by rw [packE]; simp
theorem packE_7 {x y : El} : packE (.mk 7 n ks [x, y]) = 7 :: (packE x ++ packE y) := by rw [packE]; simp [packL]
end
end Go.Proofs.J
namespace Go.Proofs.J
attribute [local irreducible] Go.Ev.Wk
open Go.Ev Go
set_option linter.unusedVariables false
set_option maxHeartbeats 4000000
theorem nextP {p : Nat → Prop} {j : Nat} (h : ∀ i, i < j → p i) (k : p j) : ∀ i, i < j + 1 → p i := fun i hi => by
 by_cases e : i = j
 ·subst e; exact k
 ·exact h i (by omega)
theorem isName {Z : Zone} (s : ByteArray) (hs : s.size ≤ 1000000) : Cz M (.func (.func 205) #[] #[]) [.string s] Z [] (fun v' Z' A' => Bis v' (IsName s) ∧ Z = Z' ∧ A' = []) := by
 refine Cz.fn (f := Tryz.f205) (by kernel_rfl) rfl rfl rfl _ rfl ?_
 (repeat first|refine go ?_|intro _)
 refine Wk.loop (fun mm L Z' A' => ∃ j : Nat, j ≤ s.size ∧ mm = s.size - j ∧ Z = Z' ∧ Sub A' [] ∧ (∀ i (h : i < s.size), i < j → lowc s[i] ∨ (digc s[i] ∧ i ≠ 0)) ∧ Kp L [(0, .string s), (7, .int .i64 s.size), (8, .int .i64 j)]) (s.size) ⟨0, Nat.zero_le _, rfl, rfl, sub_, fun i _ h => by omega, kp_⟩ ?_
 rintro mm L Z' A' - ⟨j, hjj, rfl, rfl, hsub, invj, hk⟩
 refine Wk.drop hsub ?_
 refine Wk.kp hk ?_
 clear hk hsub
 (repeat first|refine go ?_|intro _)
 refine Wk.cond rfl (fun hc => ?_) (fun hc => ?_)
 ·have hlt : j < s.size := by simp at hc; omega
  have e1 : s[j]? = some s[j] := getElem?_pos s j hlt
  have nx : lowc s[j] ∨ (digc s[j] ∧ j ≠ 0) → ∀ i (h : i < s.size), i < j + 1 → lowc s[i] ∨ (digc s[i] ∧ i ≠ 0) := fun hh i h hi => by
   by_cases e : i = j
   ·subst e; exact hh
   ·exact invj i h (by omega)
  have no : ¬ (lowc s[j] ∨ (digc s[j] ∧ j ≠ 0)) → ¬ IsName s := fun hn hN => hn (hN.2.2 j hlt)
  generalize s[j] = w at e1 nx no
  (repeat first|refine go ?_|intro _)
  first | refine Wk.cut (fun L Z' A' => Z = Z' ∧ Sub A' [] ∧ Kp L [(3, .int .i64 j), (4, .bool (decide (lowc w))), (5, .bool (decide (digc w))), (0, .string s), (7, .int .i64 s.size), (8, .int .i64 j)]) ?_ ?_ | refine Wk.cutr (fun L Z' A' => Z = Z' ∧ Sub A' [] ∧ Kp L [(3, .int .i64 j), (4, .bool (decide (lowc w))), (5, .bool (decide (digc w))), (0, .string s), (7, .int .i64 s.size), (8, .int .i64 j)]) ?_ ?_
  ·refine Wk.drawr (ms := [0, 0, 3, 7, 15, 31, 31, 127, 255, 511, 0, 0, 3072, 7168, 15391, 31775, 31775, 130079, 261151, 523295, 32767, 2097151]) (l := [0, 1, 2, 3, 4, 5, 6, 7, 8, 9, 10, 11, 12, 13, 14, 15, 16, 17, 18, 19, 20, 21]) (by kernel_rfl) (by kernel_rfl) (by kernel_rfl) rfl ?_
   (repeat first|refine go ?_|intro _)
   refine Wk.caser 15 rfl (fun hl => ?_) (fun hl => ?_)
   ·(repeat first|refine go ?_|intro _)
    refine Wk.caser 25 rfl (fun hd => ?_) (fun hd => ?_)
    ·(repeat first|refine go ?_|intro _)
     refine Wk.inv ⟨rfl, sub_, ⟨rfl, eqBp (by simp [lowc] at hl ⊢; omega), eqBp (by simp [digc] at hd ⊢; omega), rfl, rfl, rfl, trivial⟩⟩
    ·(repeat first|refine go ?_|intro _)
     refine Wk.inv ⟨rfl, sub_, ⟨rfl, eqBp (by simp [lowc] at hl ⊢; omega), eqBp (by simp [digc] at hd ⊢; omega), rfl, rfl, rfl, trivial⟩⟩
   ·(repeat first|refine go ?_|intro _)
    refine Wk.caser 25 rfl (fun hd => ?_) (fun hd => ?_)
    ·(repeat first|refine go ?_|intro _)
     refine Wk.inv ⟨rfl, sub_, ⟨rfl, eqBp (by simp [lowc] at hl ⊢; omega), eqBp (by simp [digc] at hd ⊢; omega), rfl, rfl, rfl, trivial⟩⟩
    ·(repeat first|refine go ?_|intro _)
     refine Wk.inv ⟨rfl, sub_, ⟨rfl, eqBp (by simp [lowc] at hl ⊢; omega), eqBp (by simp [digc] at hd ⊢; omega), rfl, rfl, rfl, trivial⟩⟩
  ·rintro L Z' A' - ⟨rfl, hsub, hk⟩
   refine Wk.drop hsub ?_
   refine Wk.kp hk ?_
   clear hk hsub
   (repeat first|refine go ?_|intro _)
   refine Wk.caser 33 rfl (fun h1 => ?_) (fun h1 => ?_)
   ·(repeat first|refine go ?_|intro _)
    refine Wk.caser 36 rfl (fun h2 => ?_) (fun h2 => ?_)
    ·(repeat first|refine go ?_|intro _)
     refine Wk.ret ⟨_, Rs.tmp rfl Rs.nil, _, Sub.none _, Bis.of (by simp at h1 h2 ⊢; exact no (by simp [h1, h2])), rfl, rfl⟩
    ·(repeat first|refine go ?_|intro _)
     refine Wk.cond rfl (fun hc => ?_) (fun hc => ?_)
     ·(repeat first|refine go ?_|intro _)
      refine Wk.ret ⟨_, Rs.tmp rfl Rs.nil, _, Sub.none _, Bis.of (by simp at h1 h2 hc ⊢; exact no (by simp [h1, hc])), rfl, rfl⟩
     ·(repeat first|refine go ?_|intro _)
      refine Wk.inv ⟨_, by omega, j + 1, by omega, rfl, rfl, sub_, (nx (by simp at h2 hc; exact .inr ⟨h2, hc⟩)), kp_⟩
   ·(repeat first|refine go ?_|intro _)
    refine Wk.inv ⟨_, by omega, j + 1, by omega, rfl, rfl, sub_, (nx (by simp at h1; exact .inl h1)), kp_⟩
 ·have hall : ∀ i (h : i < s.size), lowc s[i] ∨ (digc s[i] ∧ i ≠ 0) := fun i h => invj i h (by simp at hc; omega)
  (repeat first|refine go ?_|intro _)
  refine Wk.caser 45 rfl (fun h1 => ?_) (fun h1 => ?_)
  ·(repeat first|refine go ?_|intro _)
   refine Wk.ret ⟨_, Rs.tmp rfl Rs.nil, _, Sub.none _, Bis.of (by simp [IsName] at h1 ⊢; exact ⟨fun h => ⟨by omega, by omega, hall⟩, fun h => by omega⟩), rfl, rfl⟩
  ·(repeat first|refine go ?_|intro _)
   refine Wk.ret ⟨_, Rs.tmp rfl Rs.nil, _, Sub.none _, Bis.of (by simp only [decide_eq_false_iff_not] at h1; simp only [Bool.false_eq_true, false_iff]; intro h; have := h.1; omega), rfl, rfl⟩
def wordE : List (ByteArray × Value) := wordL.zip [.int .u8 1, .int .u8 2, .int .u8 3, .int .u8 4, .int .u8 6, .int .u8 7]
theorem words {Z : Zone} : Cz M (.func (.func 245) #[] #[]) [] Z [] (fun v' Z' A' => Z = Z' ∧ ∃ b, v' = .map (some b) ∧ A' = [pt b (.map (wordE.map fun p => (.string p.1, p.2)))]) := by
 refine Cz.fn (f := Tryz.f245) (by kernel_rfl) rfl rfl rfl _ rfl ?_
 (repeat first|refine go ?_|intro _)
 refine Wk.mkm rfl rfl rfl fun b => ?_
 repeat (refine Wk.insert rfl rfl rfl rfl (by kernel_rfl) (by kernel_rfl) Upd.head rfl rfl ?_)
 (repeat first|refine go ?_|intro _)
 refine Wk.ret ⟨_, Rs.tmp rfl Rs.nil, _, Sub.refl _, rfl, b, rfl, rfl⟩
theorem isTable {Z : Zone} (s : ByteArray) (hs : s.size ≤ 1000000) : Cz M (.func (.func 210) #[] #[]) [.string s] Z [] (fun v' Z' A' => Bis v' (IsTableName s) ∧ Z = Z' ∧ A' = []) := by
 obtain ⟨w, hw⟩ : ∃ w, foundOr ⟨.int .u8, 1, 1, [.int .u8 0], true⟩ (findS s wordE 0) = some (w, (findS s wordE 0).isSome) := by
  cases findS s wordE 0 with
  | none => exact ⟨_, rfl⟩
  | some p => exact ⟨_, rfl⟩
 have hin : (findS s wordE 0).isSome = true ↔ s ∈ wordL := by
  rw [Option.isSome_iff_exists]
  exact findS_some
 generalize (findS s wordE 0).isSome = isw at hw hin
 refine Cz.fn (f := Tryz.f210) (by kernel_rfl) rfl rfl rfl _ rfl ?_
 (repeat first|refine go ?_|intro _)
 refine Wk.call rfl rfl (Spl.none _) (words) rfl rfl rfl ?_
 rintro v' Z' A' hz ⟨rfl, b, rfl, rfl⟩
 (repeat first|refine go ?_|intro _)
 refine Wk.lookup rfl rfl rfl rfl (.inr (List.Mem.head _)) rfl (keyFind_str rfl s wordE 0) hw rfl rfl rfl ?_
 (repeat first|refine go ?_|intro _)
 refine Wk.call rfl rfl (Spl.none _) (isName s hs) rfl rfl rfl ?_
 rintro v' Z' A' hz ⟨⟨b2, rfl, hb⟩, rfl, rfl⟩
 (repeat first|refine go ?_|intro _)
 refine Wk.caser 13 rfl (fun h1 => ?_) (fun h1 => ?_)
 ·(repeat first|refine go ?_|intro _)
  refine Wk.ret ⟨_, Rs.tmp rfl Rs.nil, _, Sub.none _, Bis.of (by rw [h1] at hb; simp [IsTableName, hb.1 rfl, ← hin]), rfl, rfl⟩
 ·(repeat first|refine go ?_|intro _)
  refine Wk.ret ⟨_, Rs.tmp rfl Rs.nil, _, Sub.none _, Bis.of (by simp [IsTableName, ← hb, h1]), rfl, rfl⟩
theorem allInt {Z : Zone} {v fv : Value} {us : List Value} {n : Nat} (p : Nat → Prop) (s : Sl Z 1 v n us) (hn : n ≤ 1000000)
  (hp : ∀ i u, i < n → us[i]? = some u → Cz M fv [.int .i64 i, u] Z [] (fun v' Z' A' => Bis v' (p i) ∧ Z = Z' ∧ A' = [])) :
  Cz M (.func (.func 209) #[] #[]) [v, fv] Z [] (fun v' Z' A' => Bis v' (∀ i, i < n → p i) ∧ Z = Z' ∧ A' = []) := by
 have hul := s.length
 refine Cz.fn (f := Tryz.f209) (by kernel_rfl) rfl rfl rfl _ rfl ?_
 (repeat first|refine go ?_|intro _)
 refine Wk.loop (fun mm L Z' A' => ∃ j : Nat, j ≤ n ∧ mm = n - j ∧ Z = Z' ∧ Sub A' [] ∧ (∀ i, i < j → p i) ∧ Kp L [(0, v), (1, fv), (7, v), (8, .int .i64 n), (9, .int .i64 j)]) (n) ⟨0, Nat.zero_le _, rfl, rfl, sub_, fun i h => by omega, kp_⟩ ?_
 rintro mm L Z' A' - ⟨j, hjj, rfl, rfl, hsub, invj, hk⟩
 refine Wk.drop hsub ?_
 refine Wk.kp hk ?_
 clear hk hsub
 (repeat first|refine go ?_|intro _)
 refine Wk.cond rfl (fun hc => ?_) (fun hc => ?_)
 ·have hlt : j < n := by simp at hc; omega
  have e1 : us[j]? = some us[j] := List.getElem?_eq_getElem (by omega)
  have e2 : getCells us (j * 1) 1 = some [us[j]] := getCells_one (by rw [Nat.mul_one]; exact e1)
  (repeat first|refine go ?_|intro _)
  refine Wk.call rfl rfl (Spl.none _) (hp j _ hlt e1) rfl rfl rfl ?_
  rintro v' Z' A' hz ⟨⟨b, rfl, hb⟩, rfl, rfl⟩
  (repeat first|refine go ?_|intro _)
  refine Wk.cond rfl (fun hc => ?_) (fun hc => ?_)
  ·(repeat first|refine go ?_|intro _)
   refine Wk.ret ⟨_, Rs.tmp rfl Rs.nil, _, Sub.none _, Bis.of (by simp at hc ⊢; exact ⟨j, hlt, fun h => by rw [hb.2 h] at hc; cases hc⟩), rfl, rfl⟩
  ·(repeat first|refine go ?_|intro _)
   refine Wk.inv ⟨_, by omega, j + 1, by omega, rfl, rfl, sub_, (nextP invj (hb.1 (by simpa using hc))), kp_⟩
 ·(repeat first|refine go ?_|intro _)
  refine Wk.ret ⟨_, Rs.tmp rfl Rs.nil, _, Sub.none _, Bis.of (by simp; exact fun i h => invj i (by simp at hc; omega)), rfl, rfl⟩
theorem allInts {Z : Zone} {v fv : Value} {us : List Value} {n : Nat} (p : Nat → Prop) (s : Sl Z 1 v n us) (hn : n ≤ 1000000)
  (hp : ∀ i u, i < n → us[i]? = some u → Cz M fv [.int .i64 i, u] Z [] (fun v' Z' A' => Bis v' (p i) ∧ Z = Z' ∧ A' = [])) :
  Cz M (.func (.func 212) #[] #[]) [v, fv] Z [] (fun v' Z' A' => Bis v' (∀ i, i < n → p i) ∧ Z = Z' ∧ A' = []) := by
 have hul := s.length
 refine Cz.fn (f := Tryz.f212) (by kernel_rfl) rfl rfl rfl _ rfl ?_
 (repeat first|refine go ?_|intro _)
 refine Wk.loop (fun mm L Z' A' => ∃ j : Nat, j ≤ n ∧ mm = n - j ∧ Z = Z' ∧ Sub A' [] ∧ (∀ i, i < j → p i) ∧ Kp L [(0, v), (1, fv), (7, v), (8, .int .i64 n), (9, .int .i64 j)]) (n) ⟨0, Nat.zero_le _, rfl, rfl, sub_, fun i h => by omega, kp_⟩ ?_
 rintro mm L Z' A' - ⟨j, hjj, rfl, rfl, hsub, invj, hk⟩
 refine Wk.drop hsub ?_
 refine Wk.kp hk ?_
 clear hk hsub
 (repeat first|refine go ?_|intro _)
 refine Wk.cond rfl (fun hc => ?_) (fun hc => ?_)
 ·have hlt : j < n := by simp at hc; omega
  have e1 : us[j]? = some us[j] := List.getElem?_eq_getElem (by omega)
  have e2 : getCells us (j * 1) 1 = some [us[j]] := getCells_one (by rw [Nat.mul_one]; exact e1)
  (repeat first|refine go ?_|intro _)
  refine Wk.call rfl rfl (Spl.none _) (hp j _ hlt e1) rfl rfl rfl ?_
  rintro v' Z' A' hz ⟨⟨b, rfl, hb⟩, rfl, rfl⟩
  (repeat first|refine go ?_|intro _)
  refine Wk.cond rfl (fun hc => ?_) (fun hc => ?_)
  ·(repeat first|refine go ?_|intro _)
   refine Wk.ret ⟨_, Rs.tmp rfl Rs.nil, _, Sub.none _, Bis.of (by simp at hc ⊢; exact ⟨j, hlt, fun h => by rw [hb.2 h] at hc; cases hc⟩), rfl, rfl⟩
  ·(repeat first|refine go ?_|intro _)
   refine Wk.inv ⟨_, by omega, j + 1, by omega, rfl, rfl, sub_, (nextP invj (hb.1 (by simpa using hc))), kp_⟩
 ·(repeat first|refine go ?_|intro _)
  refine Wk.ret ⟨_, Rs.tmp rfl Rs.nil, _, Sub.none _, Bis.of (by simp; exact fun i h => invj i (by simp at hc; omega)), rfl, rfl⟩
theorem allStr {Z : Zone} {v fv : Value} {us : List Value} {n : Nat} (p : Nat → Prop) (s : Sl Z 1 v n us) (hn : n ≤ 1000000)
  (hp : ∀ i u, i < n → us[i]? = some u → Cz M fv [.int .i64 i, u] Z [] (fun v' Z' A' => Bis v' (p i) ∧ Z = Z' ∧ A' = [])) :
  Cz M (.func (.func 211) #[] #[]) [v, fv] Z [] (fun v' Z' A' => Bis v' (∀ i, i < n → p i) ∧ Z = Z' ∧ A' = []) := by
 have hul := s.length
 refine Cz.fn (f := Tryz.f211) (by kernel_rfl) rfl rfl rfl _ rfl ?_
 (repeat first|refine go ?_|intro _)
 refine Wk.loop (fun mm L Z' A' => ∃ j : Nat, j ≤ n ∧ mm = n - j ∧ Z = Z' ∧ Sub A' [] ∧ (∀ i, i < j → p i) ∧ Kp L [(0, v), (1, fv), (7, v), (8, .int .i64 n), (9, .int .i64 j)]) (n) ⟨0, Nat.zero_le _, rfl, rfl, sub_, fun i h => by omega, kp_⟩ ?_
 rintro mm L Z' A' - ⟨j, hjj, rfl, rfl, hsub, invj, hk⟩
 refine Wk.drop hsub ?_
 refine Wk.kp hk ?_
 clear hk hsub
 (repeat first|refine go ?_|intro _)
 refine Wk.cond rfl (fun hc => ?_) (fun hc => ?_)
 ·have hlt : j < n := by simp at hc; omega
  have e1 : us[j]? = some us[j] := List.getElem?_eq_getElem (by omega)
  have e2 : getCells us (j * 1) 1 = some [us[j]] := getCells_one (by rw [Nat.mul_one]; exact e1)
  (repeat first|refine go ?_|intro _)
  refine Wk.call rfl rfl (Spl.none _) (hp j _ hlt e1) rfl rfl rfl ?_
  rintro v' Z' A' hz ⟨⟨b, rfl, hb⟩, rfl, rfl⟩
  (repeat first|refine go ?_|intro _)
  refine Wk.cond rfl (fun hc => ?_) (fun hc => ?_)
  ·(repeat first|refine go ?_|intro _)
   refine Wk.ret ⟨_, Rs.tmp rfl Rs.nil, _, Sub.none _, Bis.of (by simp at hc ⊢; exact ⟨j, hlt, fun h => by rw [hb.2 h] at hc; cases hc⟩), rfl, rfl⟩
  ·(repeat first|refine go ?_|intro _)
   refine Wk.inv ⟨_, by omega, j + 1, by omega, rfl, rfl, sub_, (nextP invj (hb.1 (by simpa using hc))), kp_⟩
 ·(repeat first|refine go ?_|intro _)
  refine Wk.ret ⟨_, Rs.tmp rfl Rs.nil, _, Sub.none _, Bis.of (by simp; exact fun i h => invj i (by simp at hc; omega)), rfl, rfl⟩
def Rws (us : List Value) (n k : Nat) (cs : Nat → List Value) : Prop := ∀ i, i < n → getCells us (i * k) k = some (cs i) ∧ okCells (cs i) = true
theorem list3 {l : List Value} (h : l.length = 3) : ∃ a b c, l = [a, b, c] := by
 match l, h with
 | [a, b, c], _ => exact ⟨a, b, c, rfl⟩
theorem list4 {l : List Value} (h : l.length = 4) : ∃ a b c d, l = [a, b, c, d] := by
 match l, h with
 | [a, b, c, d], _ => exact ⟨a, b, c, d, rfl⟩
theorem allShp {Z : Zone} {v fv : Value} {us : List Value} {n : Nat} {cs : Nat → List Value} (p : Nat → Prop) (s : Sl Z 3 v n us) (hr : Rws us n 3 cs) (hn : n ≤ 1000000)
  (hp : ∀ i, i < n → Cz M fv [.int .i64 i, .agg ⟨cs i⟩] Z [] (fun v' Z' A' => Bis v' (p i) ∧ Z = Z' ∧ A' = [])) :
  Cz M (.func (.func 217) #[] #[]) [v, fv] Z [] (fun v' Z' A' => Bis v' (∀ i, i < n → p i) ∧ Z = Z' ∧ A' = []) := by
 refine Cz.fn (f := Tryz.f217) (by kernel_rfl) rfl rfl rfl _ rfl ?_
 (repeat first|refine go ?_|intro _)
 refine Wk.loop (fun mm L Z' A' => ∃ j : Nat, j ≤ n ∧ mm = n - j ∧ Z = Z' ∧ Sub A' [] ∧ (∀ i, i < j → p i) ∧ Kp L [(0, v), (1, fv), (7, v), (8, .int .i64 n), (9, .int .i64 j)]) (n) ⟨0, Nat.zero_le _, rfl, rfl, sub_, fun i h => by omega, kp_⟩ ?_
 rintro mm L Z' A' - ⟨j, hjj, rfl, rfl, hsub, invj, hk⟩
 refine Wk.drop hsub ?_
 refine Wk.kp hk ?_
 clear hk hsub
 (repeat first|refine go ?_|intro _)
 refine Wk.cond rfl (fun hc => ?_) (fun hc => ?_)
 ·have hlt : j < n := by simp at hc; omega
  obtain ⟨e2, hok⟩ := hr j hlt
  have hcl := hp j hlt
  obtain ⟨a1, a2, a3, ecs⟩ := list3 (getC_some e2).2.2
  rw [ecs] at e2 hok hcl
  (repeat first|refine go ?_|intro _)
  refine Wk.store rfl rfl rfl rfl hok Upd.head rfl rfl rfl ?_
  (repeat first|refine go ?_|intro _)
  refine Wk.call rfl rfl (Spl.none _) (hcl) rfl rfl rfl ?_
  rintro v' Z' A' hz ⟨⟨b, rfl, hb⟩, rfl, rfl⟩
  (repeat first|refine go ?_|intro _)
  refine Wk.cond rfl (fun hc => ?_) (fun hc => ?_)
  ·(repeat first|refine go ?_|intro _)
   refine Wk.ret ⟨_, Rs.tmp rfl Rs.nil, _, Sub.none _, Bis.of (by simp at hc ⊢; exact ⟨j, hlt, fun h => by rw [hb.2 h] at hc; cases hc⟩), rfl, rfl⟩
  ·(repeat first|refine go ?_|intro _)
   refine Wk.inv ⟨_, by omega, j + 1, by omega, rfl, rfl, sub_, (nextP invj (hb.1 (by simpa using hc))), kp_⟩
 ·(repeat first|refine go ?_|intro _)
  refine Wk.ret ⟨_, Rs.tmp rfl Rs.nil, _, Sub.none _, Bis.of (by simp; exact fun i h => invj i (by simp at hc; omega)), rfl, rfl⟩
theorem allTbl {Z : Zone} {v fv : Value} {us : List Value} {n : Nat} {cs : Nat → List Value} (p : Nat → Prop) (s : Sl Z 4 v n us) (hr : Rws us n 4 cs) (hn : n ≤ 1000000)
  (hp : ∀ i, i < n → Cz M fv [.int .i64 i, .agg ⟨cs i⟩] Z [] (fun v' Z' A' => Bis v' (p i) ∧ Z = Z' ∧ A' = [])) :
  Cz M (.func (.func 155) #[] #[]) [v, fv] Z [] (fun v' Z' A' => Bis v' (∀ i, i < n → p i) ∧ Z = Z' ∧ A' = []) := by
 refine Cz.fn (f := Tryz.f155) (by kernel_rfl) rfl rfl rfl _ rfl ?_
 (repeat first|refine go ?_|intro _)
 refine Wk.loop (fun mm L Z' A' => ∃ j : Nat, j ≤ n ∧ mm = n - j ∧ Z = Z' ∧ Sub A' [] ∧ (∀ i, i < j → p i) ∧ Kp L [(0, v), (1, fv), (7, v), (8, .int .i64 n), (9, .int .i64 j)]) (n) ⟨0, Nat.zero_le _, rfl, rfl, sub_, fun i h => by omega, kp_⟩ ?_
 rintro mm L Z' A' - ⟨j, hjj, rfl, rfl, hsub, invj, hk⟩
 refine Wk.drop hsub ?_
 refine Wk.kp hk ?_
 clear hk hsub
 (repeat first|refine go ?_|intro _)
 refine Wk.cond rfl (fun hc => ?_) (fun hc => ?_)
 ·have hlt : j < n := by simp at hc; omega
  obtain ⟨e2, hok⟩ := hr j hlt
  have hcl := hp j hlt
  obtain ⟨a1, a2, a3, a4, ecs⟩ := list4 (getC_some e2).2.2
  rw [ecs] at e2 hok hcl
  (repeat first|refine go ?_|intro _)
  refine Wk.store rfl rfl rfl rfl hok Upd.head rfl rfl rfl ?_
  (repeat first|refine go ?_|intro _)
  refine Wk.call rfl rfl (Spl.none _) (hcl) rfl rfl rfl ?_
  rintro v' Z' A' hz ⟨⟨b, rfl, hb⟩, rfl, rfl⟩
  (repeat first|refine go ?_|intro _)
  refine Wk.cond rfl (fun hc => ?_) (fun hc => ?_)
  ·(repeat first|refine go ?_|intro _)
   refine Wk.ret ⟨_, Rs.tmp rfl Rs.nil, _, Sub.none _, Bis.of (by simp at hc ⊢; exact ⟨j, hlt, fun h => by rw [hb.2 h] at hc; cases hc⟩), rfl, rfl⟩
  ·(repeat first|refine go ?_|intro _)
   refine Wk.inv ⟨_, by omega, j + 1, by omega, rfl, rfl, sub_, (nextP invj (hb.1 (by simpa using hc))), kp_⟩
 ·(repeat first|refine go ?_|intro _)
  refine Wk.ret ⟨_, Rs.tmp rfl Rs.nil, _, Sub.none _, Bis.of (by simp; exact fun i h => invj i (by simp at hc; omega)), rfl, rfl⟩
theorem indexStr {Z : Zone} {v : Value} {ss : List ByteArray} (x : ByteArray) (s : Sl Z 1 v ss.length (ss.map Value.string)) (hn : ss.length ≤ 1000000) :
  Cz M (.func (.func 244) #[] #[]) [v, .string x] Z [] (fun v' Z' A' => (∃ r : Int, v' = .int .i64 r ∧ (0 ≤ r ↔ ∃ i, ∃ h : i < ss.length, ss[i] = x)) ∧ Z = Z' ∧ A' = []) := by
 refine Cz.fn (f := Tryz.f244) (by kernel_rfl) rfl rfl rfl _ rfl ?_
 (repeat first|refine go ?_|intro _)
 refine Wk.loop (fun mm L Z' A' => ∃ j : Nat, j ≤ ss.length ∧ mm = ss.length - j ∧ Z = Z' ∧ Sub A' [] ∧ (∀ i, i < j → ∀ h : i < ss.length, ss[i] ≠ x) ∧ Kp L [(0, v), (1, .string x), (6, v), (7, .int .i64 ss.length), (8, .int .i64 j)]) (ss.length) ⟨0, Nat.zero_le _, rfl, rfl, sub_, fun i h => by omega, kp_⟩ ?_
 rintro mm L Z' A' - ⟨j, hjj, rfl, rfl, hsub, invj, hk⟩
 refine Wk.drop hsub ?_
 refine Wk.kp hk ?_
 clear hk hsub
 (repeat first|refine go ?_|intro _)
 refine Wk.cond rfl (fun hc => ?_) (fun hc => ?_)
 ·have hlt : j < ss.length := by simp at hc; omega
  (repeat first|refine go ?_|intro _)
  refine Wk.cond rfl (fun hc => ?_) (fun hc => ?_)
  ·(repeat first|refine go ?_|intro _)
   refine Wk.ret ⟨_, Rs.tmp rfl Rs.nil, _, Sub.none _, ⟨_, rfl, by simp; exact ⟨j, hlt, (strEq.1 hc).symm⟩⟩, rfl, rfl⟩
  ·(repeat first|refine go ?_|intro _)
   refine Wk.inv ⟨_, by omega, j + 1, by omega, rfl, rfl, sub_, (nextP invj (fun h e => by rw [strEq.2 e.symm] at hc; cases hc)), kp_⟩
 ·(repeat first|refine go ?_|intro _)
  refine Wk.ret ⟨_, Rs.tmp rfl Rs.nil, _, Sub.none _, ⟨_, rfl, by simp; exact fun i h => invj i (by simp at hc; omega) h⟩, rfl, rfl⟩
theorem containsStr {Z : Zone} {v : Value} {ss : List ByteArray} (x : ByteArray) (s : Sl Z 1 v ss.length (ss.map Value.string)) (hn : ss.length ≤ 1000000) :
  Cz M (.func (.func 206) #[] #[]) [v, .string x] Z [] (fun v' Z' A' => Bis v' (∃ i, ∃ h : i < ss.length, ss[i] = x) ∧ Z = Z' ∧ A' = []) := by
 refine Cz.fn (f := Tryz.f206) (by kernel_rfl) rfl rfl rfl _ rfl ?_
 (repeat first|refine go ?_|intro _)
 refine Wk.call rfl rfl (Spl.none _) (indexStr x s hn) rfl rfl rfl ?_
 rintro v' Z' A' hz ⟨⟨r, rfl, hr⟩, rfl, rfl⟩
 (repeat first|refine go ?_|intro _)
 refine Wk.ret ⟨_, Rs.tmp rfl Rs.nil, _, Sub.none _, Bis.of (by rw [← hr]; simp), rfl, rfl⟩
theorem chk1 {Z : Zone} {b3 : Nat} {n : Int} (i a : Int) (h3 : Z b3 = some (.cells [.int .i64 n] true 0)) :
  Cz M (.func (.func 203) #[] ⟨[.pointer (some ⟨b3, 0, none⟩)]⟩) [.int .i64 i, .int .i64 a] Z [] (fun v' Z' A' => Bis v' (0 ≤ a ∧ a < n) ∧ Z = Z' ∧ A' = []) := by
 refine Cz.fn (f := Tryz.f203) (by kernel_rfl) rfl rfl rfl _ rfl ?_
 (repeat first|refine go ?_|intro _)
 refine Wk.caser 8 rfl (fun h1 => ?_) (fun h1 => ?_)
 ·(repeat first|refine go ?_|intro _)
  refine Wk.ret ⟨_, Rs.tmp rfl Rs.nil, _, Sub.none _, Bis.of (by simp at h1 ⊢; omega), rfl, rfl⟩
 ·(repeat first|refine go ?_|intro _)
  refine Wk.ret ⟨_, Rs.tmp rfl Rs.nil, _, Sub.none _, Bis.of (by simp at h1 ⊢; omega), rfl, rfl⟩
theorem chk2 {Z : Zone} {b1 : Nat} {nm : ByteArray} {ve va vw : Value} {ss : List ByteArray} (i : Nat) (x : ByteArray) (hx : x.size ≤ 1000000) (hi : i < ss.length) (hn : ss.length ≤ 1000000) (h1 : Z b1 = some (.cells [.string nm, ve, va, vw] true 0)) (s : Sl Z 1 ve ss.length (ss.map Value.string)) :
  Cz M (.func (.func 204) #[] ⟨[.pointer (some ⟨b1, 0, none⟩)]⟩) [.int .i64 i, .string x] Z [] (fun v' Z' A' => Bis v' (IsName x ∧ ∀ j (h : j < i), ss[j] ≠ x) ∧ Z = Z' ∧ A' = []) := by
 refine Cz.fn (f := Tryz.f204) (by kernel_rfl) rfl rfl rfl _ rfl ?_
 (repeat first|refine go ?_|intro _)
 refine Wk.call rfl rfl (Spl.none _) (isName x hx) rfl rfl rfl ?_
 rintro v' Z' A' hz ⟨⟨b, rfl, hb⟩, rfl, rfl⟩
 (repeat first|refine go ?_|intro _)
 refine Wk.caser 8 rfl (fun hc => ?_) (fun hc => ?_)
 ·(repeat first|refine go ?_|intro _)
  refine Wk.sliceSl (l := 0) (h := i) s rfl rfl rfl rfl rfl rfl rfl rfl rfl rfl rfl ⟨rfl, by simp, by omega, by omega, trivial⟩ fun v9 s9 => ?_
  (repeat first|refine go ?_|intro _)
  have s9' : Sl Z 1 v9 (ss.take i).length ((ss.take i).map Value.string) := by
   have e : (ss.take i).length = i - 0 := by rw [List.length_take]; omega
   rw [e, List.map_take]; simpa using s9
  refine Wk.call rfl rfl (Spl.none _) (containsStr x s9' (by rw [List.length_take]; omega)) rfl rfl rfl ?_
  rintro v' Z' A' hz ⟨⟨b2, rfl, hb2⟩, rfl, rfl⟩
  (repeat first|refine go ?_|intro _)
  have key : (!b2) = true ↔ IsName x ∧ ∀ j (h : j < i), ss[j] ≠ x := by
   rw [hc] at hb
   constructor
   ·intro h
    refine ⟨hb.1 rfl, fun j hj e => ?_⟩
    have : b2 = true := hb2.2 ⟨j, by simp; omega, by simpa using e⟩
    rw [this] at h; cases h
   ·rintro ⟨_, h⟩
    cases b2 with
    | false => rfl
    | true =>
     obtain ⟨k, hk, e⟩ := hb2.1 rfl
     simp at hk e
     exact absurd e (h k (by omega))
  refine Wk.ret ⟨_, Rs.tmp rfl Rs.nil, _, Sub.none _, Bis.of key, rfl, rfl⟩
 ·(repeat first|refine go ?_|intro _)
  refine Wk.ret ⟨_, Rs.tmp rfl Rs.nil, _, Sub.none _, Bis.of (by simp [← hb, hc]), rfl, rfl⟩
theorem chk31 {Z : Zone} {b4 : Nat} {vl : Value} {l : List Int} (i : Nat) (a : Int) (hi : i < l.length) (hn : l.length ≤ 1000000) (h4 : Z b4 = some (.cells [vl] true 0)) (s : Sl Z 1 vl l.length (l.map (Value.int .i64))) :
  Cz M (.func (.func 208) #[] ⟨[.pointer (some ⟨b4, 0, none⟩)]⟩) [.int .i64 i, .int .i64 a] Z [] (fun v' Z' A' => Bis v' (i = 0 ∨ ∃ h : 0 < i, l[i - 1] < a) ∧ Z = Z' ∧ A' = []) := by
 refine Cz.fn (f := Tryz.f208) (by kernel_rfl) rfl rfl rfl _ rfl ?_
 (repeat first|refine go ?_|intro _)
 refine Wk.caser 8 rfl (fun h1 => ?_) (fun h1 => ?_)
 ·(repeat first|refine go ?_|intro _)
  refine Wk.ret ⟨_, Rs.tmp rfl Rs.nil, _, Sub.none _, Bis.of (by simp at h1 ⊢; exact .inl h1), rfl, rfl⟩
 ·have hp : 0 < i := by simp at h1; omega
  (repeat first|refine go ?_|intro _)
  refine Wk.iaSl (i - 1) s rfl rfl rfl rfl rfl rfl (by omega) (by omega) (getCells_map (by omega)) fun b off hp => ?_
  (repeat first|refine go ?_|intro _)
  refine Wk.ret ⟨_, Rs.tmp rfl Rs.nil, _, Sub.none _, Bis.of (by simp; exact ⟨fun h => .inr ⟨by omega, h⟩, fun h => h.elim (fun h => by omega) (fun h => h.2)⟩), rfl, rfl⟩
theorem chk3 {Z : Zone} {b4 b3 : Nat} {vl : Value} {l : List Int} {n : Int} (i : Int) (hn : l.length ≤ 1000000) (h4 : Z b4 = some (.cells [.func (.func 203) #[] ⟨[.pointer (some ⟨b3, 0, none⟩)]⟩] true 0)) (h3 : Z b3 = some (.cells [.int .i64 n] true 0)) (s : Sl Z 1 vl l.length (l.map (Value.int .i64))) :
  Cz M (.func (.func 207) #[] ⟨[.pointer (some ⟨b4, 0, none⟩)]⟩) [.int .i64 i, vl] Z [] (fun v' Z' A' => Bis v' ((∀ i (h : i < l.length), 0 ≤ l[i] ∧ l[i] < n) ∧ ∀ i (h : i + 1 < l.length), l[i] < l[i + 1]) ∧ Z = Z' ∧ A' = []) := by
 refine Cz.shrink ?_
 obtain ⟨al, cl, rfl⟩ := s.form
 refine Cz.fn (f := Tryz.f207) (by kernel_rfl) rfl rfl rfl _ rfl ?_
 (repeat first|refine go ?_|intro _)
 (repeat first|refine go ?_|intro _)
 first | refine Wk.freezer Rem.head fun Z1 e1 hb => ?_ | refine Wk.freeze Rem.head fun Z1 e1 hb => ?_
 have s1 := s.mono e1
 (repeat first|refine go ?_|intro _)
 refine Wk.call rfl rfl (Spl.none _) (allInt (fun i => ∃ h : i < l.length, 0 ≤ l[i] ∧ l[i] < n) s1 hn (fun i u hi hu => by
  have : u = .int .i64 l[i] := by simpa [hi] using hu.symm
  subst this
  exact (chk1 (Z := Z1) i l[i] (e1 _ _ h3)).mono fun v' Z' A' _ q => ⟨q.1.imp ⟨fun h => ⟨hi, h⟩, fun ⟨_, h⟩ => h⟩, q.2⟩)) rfl rfl rfl ?_
 rintro v' Z' A' hz ⟨⟨b, rfl, hb1⟩, rfl, rfl⟩
 (repeat first|refine go ?_|intro _)
 refine Wk.caser 11 rfl (fun hc => ?_) (fun hc => ?_)
 ·(repeat first|refine go ?_|intro _)
  refine Wk.call rfl rfl (Spl.none _) (allInt (fun i => ∃ h : i < l.length, i = 0 ∨ ∃ h : 0 < i, l[i - 1] < l[i]) s1 hn (fun i u hi hu => by
   have : u = .int .i64 l[i] := by simpa [hi] using hu.symm
   subst this
   exact (chk31 (Z := Z1) i l[i] hi hn hb s1).mono fun v' Z' A' _ q => ⟨q.1.imp ⟨fun h => ⟨hi, h⟩, fun ⟨_, h⟩ => h⟩, q.2⟩)) rfl rfl rfl ?_
  rintro v' Z' A' hz ⟨⟨b2, rfl, hb2⟩, rfl, rfl⟩
  (repeat first|refine go ?_|intro _)
  have key : b2 = true ↔ ((∀ i (h : i < l.length), 0 ≤ l[i] ∧ l[i] < n) ∧ ∀ i (h : i + 1 < l.length), l[i] < l[i + 1]) := by
   rw [hb2]
   rw [hc] at hb1
   constructor
   ·intro h
    refine ⟨fun i hi => (hb1.1 rfl i hi).2, fun i hi => ?_⟩
    obtain ⟨_, h | ⟨_, h⟩⟩ := h (i + 1) hi
    ·omega
    ·exact h
   ·rintro ⟨_, h⟩ i hi
    refine ⟨hi, ?_⟩
    cases i with
    | zero => exact .inl rfl
    | succ i => exact .inr ⟨by omega, h i hi⟩
  refine Wk.ret ⟨_, Rs.tmp rfl Rs.nil, _, Sub.none _, Bis.of key, rfl⟩
 ·(repeat first|refine go ?_|intro _)
  have key : ¬ ((∀ i (h : i < l.length), 0 ≤ l[i] ∧ l[i] < n) ∧ ∀ i (h : i + 1 < l.length), l[i] < l[i + 1]) := fun h => by
   rw [hb1.2 fun i hi => ⟨hi, h.1 i hi⟩] at hc; cases hc
  refine Wk.ret ⟨_, Rs.tmp rfl Rs.nil, _, Sub.none _, Bis.of (by simpa using key), rfl⟩
theorem ChkO {Z : Zone} {nm : ByteArray} {ve va vw : Value} {t : Tbl} (h : TbR Z nm ve va vw t) (ht : t.Sm) :
  Cz M (.func (.func 146) #[] #[]) [.agg ⟨[.string nm, ve, va, vw]⟩] Z [] (fun v' Z' A' => Ers v' t.Ok 4 ∧ Z = Z' ∧ A' = []) := by
 refine Cz.shrink ?_
 obtain rfl := h.name
 have se0 := h.elems
 have no : ¬ t.Ok → Ers (outOf [.int .i64 4]) t.Ok 4 := fun h => .inr ⟨h, rfl⟩
 refine Cz.fn (f := Tryz.f146) (by kernel_rfl) rfl rfl rfl _ rfl ?_
 (repeat first|refine go ?_|intro _)
 first | refine Wk.freezer Rem.head fun Z1 e1 h4 => ?_ | refine Wk.freeze Rem.head fun Z1 e1 h4 => ?_
 first | refine Wk.freezer Rem.head fun Z2 e2 h3 => ?_ | refine Wk.freeze Rem.head fun Z2 e2 h3 => ?_
 first | refine Wk.freezer Rem.head fun Z3 e3 h1 => ?_ | refine Wk.freeze Rem.head fun Z3 e3 h1 => ?_
 have h' := h.mono (e1.trans (e2.trans e3))
 have h4' := e3 _ _ (e2 _ _ h4)
 have h3' := e3 _ _ h3
 clear se0
 have se := h'.elems
 have sw := h'.wrong
 obtain ⟨us, sa, ra⟩ := h'.above
 refine Wk.call rfl rfl (Spl.none _) (isTable t.name ht.name) rfl rfl rfl ?_
 rintro v' Z' A' hz ⟨⟨b, rfl, hb⟩, rfl, rfl⟩
 (repeat first|refine go ?_|intro _)
 refine Wk.caser 17 rfl (fun hc => ?_) (fun hc => ?_)
 ·(repeat first|refine go ?_|intro _)
  refine Wk.ret ⟨_, Rs.tmp rfl Rs.nil, _, Sub.none _, no fun ok => ?_, rfl⟩
  rw [hb.2 ok.1] at hc; cases hc
 have o1 : IsTableName t.name := hb.1 (by simpa using hc)
 (repeat first|refine go ?_|intro _)
 refine Wk.caser 21 rfl (fun hc => ?_) (fun hc => ?_)
 ·(repeat first|refine go ?_|intro _)
  refine Wk.ret ⟨_, Rs.tmp rfl Rs.nil, _, Sub.none _, no fun ok => ?_, rfl⟩
  have := ok.2.1
  simp at hc; omega
 have o2 : 1 ≤ t.elems.length := by simp at hc; omega
 (repeat first|refine go ?_|intro _)
 refine Wk.caser 25 rfl (fun hc => ?_) (fun hc => ?_)
 ·(repeat first|refine go ?_|intro _)
  refine Wk.ret ⟨_, Rs.tmp rfl Rs.nil, _, Sub.none _, no fun ok => ?_, rfl⟩
  have := ok.2.2.1
  simp at hc; omega
 have o3 : t.elems.length ≤ 12 := by simp at hc; omega
 (repeat first|refine go ?_|intro _)
 refine Wk.caser 32 rfl (fun hc => ?_) (fun hc => ?_)
 ·(repeat first|refine go ?_|intro _)
  refine Wk.ret ⟨_, Rs.tmp rfl Rs.nil, _, Sub.none _, no fun ok => ?_, rfl⟩
  have := ok.2.2.2.1
  simp at hc; omega
 have o4 : t.above.length = t.elems.length := by simp at hc; omega
 (repeat first|refine go ?_|intro _)
 refine Wk.caser 39 rfl (fun hc => ?_) (fun hc => ?_)
 ·(repeat first|refine go ?_|intro _)
  refine Wk.ret ⟨_, Rs.tmp rfl Rs.nil, _, Sub.none _, no fun ok => ?_, rfl⟩
  have := ok.2.2.2.2.1
  simp at hc; omega
 have o5 : t.wrong.length = t.elems.length := by simp at hc; omega
 (repeat first|refine go ?_|intro _)
 refine Wk.call rfl rfl (Spl.none _) (allStr (fun i => ∃ h : i < t.elems.length, IsName t.elems[i] ∧ ∀ j (hj : j < i), t.elems[j] ≠ t.elems[i]) se ht.elems (fun i u hi hu => by
  have : u = .string t.elems[i] := by simpa [hi] using hu.symm
  subst this
  exact (chk2 (Z := Z3) i t.elems[i] (ht.each _ (List.getElem_mem hi)) hi ht.elems h1 se).mono fun v' Z' A' _ q => ⟨q.1.imp ⟨fun h => ⟨hi, h⟩, fun ⟨_, h⟩ => h⟩, q.2⟩)) rfl rfl rfl ?_
 rintro v' Z' A' hz ⟨⟨b2, rfl, hb2⟩, rfl, rfl⟩
 (repeat first|refine go ?_|intro _)
 refine Wk.caser 46 rfl (fun hc => ?_) (fun hc => ?_)
 ·(repeat first|refine go ?_|intro _)
  refine Wk.ret ⟨_, Rs.tmp rfl Rs.nil, _, Sub.none _, no fun ok => ?_, rfl⟩
  rw [hb2.2 fun i hi => ⟨hi, ok.2.2.2.2.2.1 i hi, fun j hj => ok.2.2.2.2.2.2.1 i j hi hj⟩] at hc; cases hc
 have o6 := hb2.1 (by simpa using hc)
 (repeat first|refine go ?_|intro _)
 refine Wk.call rfl rfl (Spl.none _) (allInts (fun i => ∃ h : i < t.above.length, RowOk t.elems.length t.above[i]) sa ht.above (fun i u hi hu => by
  obtain ⟨u', k1, k2⟩ := ra i hi
  rw [k1] at hu
  obtain rfl : u' = u := by simpa using hu
  exact (chk3 (Z := Z3) (n := t.elems.length) i (ht.rows _ (List.getElem_mem hi)) h4' h3' k2).mono fun v' Z' A' _ q => ⟨q.1.imp ⟨fun h => ⟨hi, h⟩, fun ⟨_, h⟩ => h⟩, q.2⟩)) rfl rfl rfl ?_
 rintro v' Z' A' hz ⟨⟨b3, rfl, hb3⟩, rfl, rfl⟩
 (repeat first|refine go ?_|intro _)
 refine Wk.cond rfl (fun hc => ?_) (fun hc => ?_)
 ·(repeat first|refine go ?_|intro _)
  refine Wk.ret ⟨_, Rs.tmp rfl Rs.nil, _, Sub.none _, no fun ok => ?_, rfl⟩
  rw [hb3.2 fun i hi => ⟨hi, ok.2.2.2.2.2.2.2 i hi⟩] at hc; cases hc
 ·have o7 := hb3.1 (by simpa using hc)
  (repeat first|refine go ?_|intro _)
  exact Wk.ret ⟨_, Rs.tmp rfl Rs.nil, _, Sub.none _, .inl ⟨⟨o1, o2, o3, o4, o5, fun i hi => (o6 i hi).2.1, fun i j hi hj => (o6 i hi).2.2 j hj, fun i hi => (o7 i hi).2⟩, rfl⟩, rfl⟩
theorem cloneI {Z : Zone} {v : Value} {m : Nat} {vs : List Value} (h : Sl Z 1 v m vs) (hm : m ≤ 1000000) (ok : okCells vs = true) : Cz M (.func (.func 189) #[] #[]) [v] Z [] (fun v' Z' A' => Z = Z' ∧ A' = [ol 1 v' m vs]) := by
 have hl := h.length
 have h0 := h
 rcases h with ⟨rfl, rfl, rfl⟩ | ⟨b, off, c, xs, wr, g, rfl, h2, h3, h4, h5⟩
 ·refine Cz.fn (f := Tryz.f189) (by kernel_rfl) rfl rfl rfl _ rfl ?_
  (repeat first|refine go ?_|intro _)
  refine Wk.olNil 1 ?_
  exact Wk.ret ⟨_, Rs.tmp rfl Rs.nil, _, Sub.refl _, rfl, rfl⟩
 ·refine Cz.fn (f := Tryz.f189) (by kernel_rfl) rfl rfl rfl _ rfl ?_
  (repeat first|refine go ?_|intro _)
  refine Wk.bs rfl rfl rfl rfl rfl rfl rfl fun b5 => ?_
  (repeat first|refine go ?_|intro _)
  refine Wk.alterr (C := [ol 1 (.slice (some ⟨b5, 0, none⟩) 0 0) 0 []]) rem (fun s h => ol_of_pt (m := 0) (vs := []) (g := 0) rfl (.inl rfl) rfl h) ?_
  refine Wk.append rfl rfl rfl rfl rfl rfl rfl rfl Rem.head (Src.sl h0) rfl ok hl (by omega) (by omega) rfl rfl rfl fun v7 => ?_
  (repeat first|refine go ?_|intro _)
  exact Wk.ret ⟨_, Rs.tmp rfl Rs.nil, _, Sub.refl _, rfl, by simp only [Nat.zero_add, List.nil_append]; rfl⟩
theorem from_ {Z : Zone} {bt : Nat} {nm : ByteArray} {ve va vw vs : Value} {t : Tbl} (h : TbR Z nm ve va vw t) (ht : t.Sm) (ok : t.Ok) (a : Nat) (ha : a < t.above.length) :
  Cz M (.func (.func 246) #[] #[]) [.pointer (some ⟨bt, 0, none⟩), .int .i64 a] Z [pt bt (.cells [.string nm, ve, va, vw, vs] true 0)]
   (fun v' Z' A' => Z = Z' ∧ ∃ l : List Bool, l.length = t.elems.length ∧ (∀ b, l[b]? = some true ↔ t.St a b) ∧ A' = [ol 1 v' t.elems.length (l.map Value.bool), pt bt (.cells [.string nm, ve, va, vw, vs] true 0)]) := by
 have se := h.elems
 obtain ⟨us, sa, ra⟩ := h.above
 obtain ⟨u, ua, su⟩ := ra a ha
 have hn := ok.2.2.1
 have hg : getCells us (a * 1) 1 = some [u] := getCells_one (by rw [Nat.mul_one]; exact ua)
 refine Cz.fn (f := Tryz.f246) (by kernel_rfl) rfl rfl rfl _ rfl ?_
 (repeat first|refine go ?_|intro _)
 refine Wk.mks t.elems.length t.elems.length rfl rfl rfl rfl rfl rfl rfl rfl (Nat.le_refl _) (by show 1 * t.elems.length ≤ _; omega) (by omega) fun b5 => ?_
 refine Wk.alterr Rem.head (fun s h => olp_bool h) ?_
 (repeat first|refine go ?_|intro _)
 refine Wk.call rfl rfl (Spl.none _) (cloneI su (ht.rows _ (List.getElem_mem ha)) (okCells_int _)) rfl rfl rfl ?_
 rintro v6 Z' A' hz ⟨rfl, rfl⟩
 refine Wk.olqr Rem.head ?_
 (repeat first|refine go ?_|intro _)
 have h0 : t.above[a].length ≤ 12 := by have := (ok.2.2.2.2.2.2.2 a ha).length; omega
 refine Wk.loop (fun mm L Z' A' => ∃ (been : List Bool) (todo : List Int) (v6 : Value), Bfs t a been todo ∧ todo.length + 12 * been.count false ≤ 156 ∧ mm = been.count false * 14 + todo.length ∧ Z = Z' ∧ Sub A' [oq 1 v6 todo.length (todo.map (Value.int .i64)), olp b5 1 (.slice (some ⟨b5, 0, none⟩) t.elems.length t.elems.length) t.elems.length (been.map Value.bool), pt bt (.cells [.string nm, ve, va, vw, vs] true 0)] ∧ Kp L [(0, .pointer (some ⟨bt, 0, none⟩)), (5, .slice (some ⟨b5, 0, none⟩) t.elems.length t.elems.length), (6, v6)]) _ ⟨_, _, _, Bfs.init ha ok, by simp; omega, rfl, rfl, Sub.refl _, kp_⟩ ?_
 rintro mm L Z' A' - ⟨been, todo, v6, hB, hle, rfl, rfl, hsub, hk⟩
 refine Wk.drop hsub ?_
 refine Wk.kp hk ?_
 clear hk hsub
 (repeat first|refine go ?_|intro _)
 refine Wk.cond rfl (fun hc => ?_) (fun hc => ?_)
 ·cases todo with
  | nil => simp at hc
  | cons c rest =>
  obtain ⟨k, rfl, hst⟩ := hB.s2 c (List.mem_cons_self ..)
  have hkn : k < t.elems.length := hst.lt ok
  have hka : k < t.above.length := by rw [ok.2.2.2.1]; exact hkn
  have hkb : k < been.length := by rw [hB.len]; exact hkn
  obtain ⟨uk, uka, suk⟩ := ra k hka
  have hgk : getCells us (k * 1) 1 = some [uk] := getCells_one (by rw [Nat.mul_one]; exact uka)
  have hrow := (ok.2.2.2.2.2.2.2 k hka).length
  (repeat first|refine go ?_|intro _)
  refine Wk.oqOpenr Rem.head (by simp) fun b off => ?_
  refine Wk.iaOqp 0 Rem.head rfl rfl rfl rfl rfl rfl rfl (by simp) ?_
  refine Wk.loadOqp1 (o := 0 * 1) (v := .int .i64 k) rfl rfl Rem.head rfl (by simp) rfl rfl ?_
  refine Wk.oqShutr Rem.head ?_
  (repeat first|refine go ?_|intro _)
  refine Wk.sliceOq (l := 1) Rem.head rfl rfl rfl rfl rfl (by simp) rfl rfl rfl fun v7 => ?_
  (repeat first|refine go ?_|intro _)
  refine Wk.iaOlp k (Rem.tail Rem.head) rfl rfl rfl rfl rfl rfl rfl hkn ?_
  refine Wk.loadOlp rfl rfl (Rem.tail Rem.head) (getCells_map (f := Value.bool) hkb) rfl rfl rfl ?_
  (repeat first|refine go ?_|intro _)
  refine Wk.cond rfl (fun hd => ?_) (fun hd => ?_)
  ·have hbk : been[k] = false := by simpa using hd
   have hcnt := count_mark hkb hbk
   (repeat first|refine go ?_|intro _)
   refine Wk.iaOlp k (Rem.tail Rem.head) rfl rfl rfl rfl rfl rfl rfl hkn ?_
   refine Wk.storeOlp rfl rfl rfl rfl rfl (Rem.tail Rem.head) (set_cells Value.bool been k true hkb) rfl rfl ?_
   (repeat first|refine go ?_|intro _)
   refine Wk.appendQ rfl rfl rfl rfl rfl rfl rfl rfl (Rem.tail Rem.head) (Src.sl suk) rfl (okCells_int _) (by simp) (by simp at hle ⊢; omega) (by simp at hle ⊢; omega) rfl rfl rfl fun v10 => ?_
   (repeat first|refine go ?_|intro _)
   refine Wk.inv ⟨_, ?_, been.set k true, rest ++ t.above[k], v10, hB.mark ok hka, ?_, rfl, rfl, ?_, kp_⟩
   ·simp only [List.length_append, List.length_cons] at hle ⊢; omega
   ·simp only [List.length_append, List.length_cons] at hle ⊢; omega
   ·rw [List.length_append, List.map_append]; exact Sub.refl _
  ·have hbk : been[k]? = some true := by rw [List.getElem?_eq_getElem hkb]; simpa using hd
   (repeat first|refine go ?_|intro _)
   refine Wk.inv ⟨_, ?_, been, rest, v7, hB.skip hbk, ?_, rfl, rfl, ?_, kp_⟩
   ·simp only [List.length_cons] at hle ⊢; omega
   ·simp only [List.length_cons] at hle ⊢; omega
   ·exact Sub.refl _
 ·have : todo = [] := by
   cases todo with
   | nil => rfl
   | cons _ _ => simp at hc
  subst this
  (repeat first|refine go ?_|intro _)
  refine Wk.alter (Rem.tail Rem.head) (fun s hs => Sat.one (olp.ol hs)) ?_
  exact Wk.ret ⟨_, Rs.tmp rfl Rs.nil, _, sub_, rfl, been, hB.len, hB.done, rfl⟩
theorem isBelow {Z : Zone} {bt : Nat} {t : Tbl} (h : TabR Z bt t) (a b : Nat) (ha : a < t.elems.length) (hb : b < t.elems.length) :
  Cz M (.func (.func 241) #[] #[]) [.pointer (some ⟨bt, 0, none⟩), .int .i64 a, .int .i64 b] Z [] (fun v' Z' A' => Bis v' (t.Bl a b) ∧ Z = Z' ∧ A' = []) := by
 obtain ⟨nm, ve, va, vw, vs, us, h1, h2, h3, h4⟩ := h.rep
 obtain ⟨u, l, k1, k2, k3, k4⟩ := h4 a ha
 have hg : getCells us (a * 1) 1 = some [u] := getCells_one (by rw [Nat.mul_one]; exact k1)
 have hbl : b < l.length := by omega
 refine Cz.fn (f := Tryz.f241) (by kernel_rfl) rfl rfl rfl _ rfl ?_
 (repeat first|refine go ?_|intro _)
 refine Wk.caser 10 rfl (fun hc => ?_) (fun hc => ?_)
 ·(repeat first|refine go ?_|intro _)
  have hab : a = b := by simp at hc; omega
  refine Wk.ret ⟨_, Rs.tmp rfl Rs.nil, _, Sub.none _, Bis.of (by simp [Tbl.Bl, hab]), rfl, rfl⟩
 ·(repeat first|refine go ?_|intro _)
  have key : l[b] = true ↔ t.Bl a b := by
   rw [Tbl.Bl, ← k4 b, List.getElem?_eq_getElem hbl]
   have hab : ¬ a = b := by simp at hc; omega
   simp [hab]
  refine Wk.ret ⟨_, Rs.tmp rfl Rs.nil, _, Sub.none _, Bis.of key, rfl, rfl⟩
theorem where_ {Z : Zone} {bt : Nat} {t : Tbl} {fv : Value} (p : Nat → Prop) (h : TabR Z bt t) (hp : ∀ a, a < t.elems.length → Cz M fv [.int .i64 a] Z [] (fun v' Z' A' => Bis v' (p a) ∧ Z = Z' ∧ A' = [])) :
  Cz M (.func (.func 239) #[] #[]) [.pointer (some ⟨bt, 0, none⟩), fv] Z [] (fun v' Z' A' => Z = Z' ∧ ∃ l : List Nat, Whe t.elems.length p l ∧ A' = [ol 1 v' l.length (nats l)]) := by
 obtain ⟨nm, ve, va, vw, vs, us, h1, h2, h3, h4⟩ := h.rep
 have se := h2.elems
 have hn := h.ok.2.2.1
 refine Cz.fn (f := Tryz.f239) (by kernel_rfl) rfl rfl rfl _ rfl ?_
 (repeat first|refine go ?_|intro _)
 refine Wk.olNil 1 ?_
 refine Wk.loop (fun mm L Z' A' => ∃ (j : Nat) (l : List Nat) (v5 : Value), j ≤ t.elems.length ∧ mm = t.elems.length - j ∧ Z = Z' ∧ Whe j p l ∧ Sub A' [ol 1 v5 l.length (nats l)] ∧ Kp L [(1, fv), (5, v5), (12, .int .i64 t.elems.length), (13, .int .i64 j)]) t.elems.length ⟨0, [], _, Nat.zero_le _, rfl, rfl, Whe.nil, Sub.refl _, kp_⟩ ?_
 rintro mm L Z' A' - ⟨j, l, v5, hj, rfl, rfl, hw, hsub, hk⟩
 refine Wk.drop hsub ?_
 refine Wk.kp hk ?_
 clear hk hsub
 have hl := hw.len
 (repeat first|refine go ?_|intro _)
 refine Wk.cond rfl (fun hc => ?_) (fun hc => ?_)
 ·have hlt : j < t.elems.length := by simp at hc; omega
  (repeat first|refine go ?_|intro _)
  refine Wk.call rfl rfl (Spl.none _) (hp j hlt) rfl rfl rfl ?_
  rintro v' Z' A' hz ⟨⟨b, rfl, hb⟩, rfl, rfl⟩
  (repeat first|refine go ?_|intro _)
  refine Wk.cond rfl (fun hc => ?_) (fun hc => ?_)
  ·(repeat first|refine go ?_|intro _)
   refine Wk.bs rfl rfl rfl rfl rfl rfl rfl fun b21 => ?_
   refine Wk.append rfl rfl rfl rfl rfl rfl rfl rfl (Rem.tail Rem.head) (Src.lit (.inr (List.Mem.head _)) rfl) rfl rfl rfl (by omega) (by omega) rfl rfl rfl fun v22 => ?_
   (repeat first|refine go ?_|intro _)
   exact Wk.inv ⟨_, by omega, j + 1, l ++ [j], v22, by omega, rfl, rfl, hw.snoc (hb.1 hc), by rw [nats_snoc, List.length_append]; exact .keep (Sub.none _), kp_⟩
  ·(repeat first|refine go ?_|intro _)
   exact Wk.inv ⟨_, by omega, j + 1, l, v5, by omega, rfl, rfl, hw.skip (fun h => by rw [hb.2 h] at hc; cases hc), Sub.refl _, kp_⟩
 ·have hjn : j = t.elems.length := by simp at hc; omega
  subst hjn
  (repeat first|refine go ?_|intro _)
  exact Wk.ret ⟨_, Rs.tmp rfl Rs.nil, _, Sub.refl _, rfl, l, hw, rfl⟩
theorem first_ {Z : Zone} {bt : Nat} {t : Tbl} {fv : Value} (p : Nat → Prop) (h : TabR Z bt t) (hp : ∀ a, a < t.elems.length → Cz M fv [.int .i64 a] Z [] (fun v' Z' A' => Bis v' (p a) ∧ Z = Z' ∧ A' = [])) :
  Cz M (.func (.func 247) #[] #[]) [.pointer (some ⟨bt, 0, none⟩), fv] Z [] (fun v' Z' A' => (∃ (r : Int) (b : Bool), v' = .tuple ⟨[.int .i64 r, .bool b]⟩ ∧ (b = true ↔ ∃ a, a < t.elems.length ∧ p a)) ∧ Z = Z' ∧ A' = []) := by
 refine Cz.shrink ?_
 refine Cz.fn (f := Tryz.f247) (by kernel_rfl) rfl rfl rfl _ rfl ?_
 (repeat first|refine go ?_|intro _)
 refine Wk.call rfl rfl (Spl.none _) (where_ p h hp) rfl rfl rfl ?_
 rintro v6 Z' A' hz ⟨rfl, l, hw, rfl⟩
 (repeat first|refine go ?_|intro _)
 refine Wk.cond rfl (fun hc => ?_) (fun hc => ?_)
 ·(repeat first|refine go ?_|intro _)
  refine Wk.ret ⟨_, Rs.tmp rfl (Rs.tmp rfl Rs.nil), _, Sub.none _, ⟨_, _, rfl, ?_⟩, rfl⟩
  have : l = [] := by simpa using hc
  subst this
  simp only [Bool.false_eq_true, false_iff]
  rintro ⟨a, ha⟩
  exact absurd ((hw.mem a).2 ha) (by simp)
 ·have hpos : 0 < l.length := by
   cases l with
   | nil => simp at hc
   | cons _ _ => simp
  first | apply Wk.olFreezer (v := v6) | apply Wk.olFreeze (v := v6)
  case p => exact rem
  intro Z1 e1 s6
  (repeat first|refine go ?_|intro _)
  refine Wk.ret ⟨_, Rs.tmp rfl (Rs.tmp rfl Rs.nil), _, Sub.none _, ⟨_, _, rfl, ?_⟩, rfl⟩
  simp only [true_iff]
  exact ⟨_, (hw.mem l[0]).1 (List.getElem_mem hpos)⟩
theorem bounds11 {Z : Zone} {bt b2 b3 : Nat} {t : Tbl} (h : TabR Z bt t) (i : Int) (a c : Nat) (ha : a < t.elems.length) (hc : c < t.elems.length) (h2 : Z b2 = some (.cells [.pointer (some ⟨bt, 0, none⟩)] true 0)) (h3 : Z b3 = some (.cells [.int .i64 c] true 0)) :
  Cz M (.func (.func 273) #[] ⟨[.pointer (some ⟨b2, 0, none⟩), .pointer (some ⟨b3, 0, none⟩)]⟩) [.int .i64 i, .int .i64 a] Z [] (fun v' Z' A' => Bis v' (t.Bl a c) ∧ Z = Z' ∧ A' = []) := by
 refine Cz.fn (f := Tryz.f273) (by kernel_rfl) rfl rfl rfl _ rfl ?_
 (repeat first|refine go ?_|intro _)
 refine Wk.call rfl rfl (Spl.none _) (isBelow h a c ha hc) rfl rfl rfl ?_
 rintro v' Z' A' hz ⟨hb, rfl, rfl⟩
 (repeat first|refine go ?_|intro _)
 refine Wk.ret ⟨_, Rs.tmp rfl Rs.nil, _, Sub.none _, hb, rfl, rfl⟩
theorem bounds1 {Z : Zone} {bt b1 b2 : Nat} {t : Tbl} (h : TabR Z bt t) {vl : Value} {l : List Nat} (sl : Sl Z 1 vl l.length (nats l)) (hl : l.length ≤ 1000000) (hin : ∀ a ∈ l, a < t.elems.length) (c : Nat) (hc : c < t.elems.length) (h1 : Z b1 = some (.cells [vl] true 0)) (h2 : Z b2 = some (.cells [.pointer (some ⟨bt, 0, none⟩)] true 0)) :
  Cz M (.func (.func 272) #[] ⟨[.pointer (some ⟨b1, 0, none⟩), .pointer (some ⟨b2, 0, none⟩)]⟩) [.int .i64 c] Z [] (fun v' Z' A' => Bis v' (∀ a ∈ l, t.Bl a c) ∧ Z = Z' ∧ A' = []) := by
 refine Cz.shrink ?_
 refine Cz.fn (f := Tryz.f272) (by kernel_rfl) rfl rfl rfl _ rfl ?_
 (repeat first|refine go ?_|intro _)
 first | refine Wk.freezer Rem.head fun Z1 e1 h3 => ?_ | refine Wk.freeze Rem.head fun Z1 e1 h3 => ?_
 refine Wk.call rfl rfl (Spl.none _) (allInt (fun i => ∀ h : i < l.length, t.Bl l[i] c) (sl.mono e1) hl (fun i u hi hu => by
  rw [nats_get hi] at hu
  obtain rfl := Option.some.inj hu
  exact (bounds11 (h.mono e1) i l[i] c (hin _ (List.getElem_mem hi)) hc (e1 _ _ h2) h3).mono fun v' Z' A' _ q => ⟨q.1.imp ⟨fun h _ => h, fun h => h hi⟩, q.2⟩)) rfl rfl rfl ?_
 rintro v' Z' A' hz ⟨hb, rfl, rfl⟩
 (repeat first|refine go ?_|intro _)
 refine Wk.ret ⟨_, Rs.tmp rfl Rs.nil, _, Sub.none _, hb.imp ⟨fun h a ha => ?_, fun h i hi _ => h _ (List.getElem_mem hi)⟩, rfl⟩
 obtain ⟨i, hi, rfl⟩ := List.getElem_of_mem ha
 exact h i hi hi
theorem bounds_ {Z : Zone} {bt : Nat} {t : Tbl} (h : TabR Z bt t) {vl : Value} {l : List Nat} (sl : Sl Z 1 vl l.length (nats l)) (hl : l.length ≤ 1000000) (hin : ∀ a ∈ l, a < t.elems.length) :
  Cz M (.func (.func 251) #[] #[]) [.pointer (some ⟨bt, 0, none⟩), vl] Z [] (fun v' Z' A' => ∃ r : List Nat, Whe t.elems.length (fun c => ∀ a ∈ l, t.Bl a c) r ∧ A' = [ol 1 v' r.length (nats r)]) := by
 obtain ⟨al, cl, rfl⟩ := sl.form
 refine Cz.fn (f := Tryz.f251) (by kernel_rfl) rfl rfl rfl _ rfl ?_
 (repeat first|refine go ?_|intro _)
 first | refine Wk.freezer Rem.head fun Z1 e1 h3 => ?_ | refine Wk.freeze Rem.head fun Z1 e1 h3 => ?_
 first | refine Wk.freezer Rem.head fun Z2 e2 h2 => ?_ | refine Wk.freeze Rem.head fun Z2 e2 h2 => ?_
 have e := e1.trans e2
 refine Wk.call rfl rfl (Spl.none _) (where_ (fun c => ∀ a ∈ l, t.Bl a c) (h.mono e) (fun c hc => bounds1 (h.mono e) (sl.mono e) hl hin c hc (e2 _ _ h3) h2)) rfl rfl rfl ?_
 rintro v' Z' A' hz ⟨rfl, r, hr, rfl⟩
 (repeat first|refine go ?_|intro _)
 exact Wk.ret ⟨_, Rs.tmp rfl Rs.nil, _, Sub.refl _, r, hr, rfl⟩
theorem indexFnI {Z : Zone} {v fv : Value} {us : List Value} {n : Nat} (p : Nat → Prop) (s : Sl Z 1 v n us) (hn : n ≤ 1000000)
  (hp : ∀ i u, i < n → us[i]? = some u → Cz M fv [u] Z [] (fun v' Z' A' => Bis v' (p i) ∧ Z = Z' ∧ A' = [])) :
  Cz M (.func (.func 258) #[] #[]) [v, fv] Z [] (fun v' Z' A' => (∃ r : Int, v' = .int .i64 r ∧ ((∃ i : Nat, r = i ∧ i < n ∧ p i) ∨ (r = -1 ∧ ∀ i, i < n → ¬ p i))) ∧ Z = Z' ∧ A' = []) := by
 have hul := s.length
 refine Cz.fn (f := Tryz.f258) (by kernel_rfl) rfl rfl rfl _ rfl ?_
 (repeat first|refine go ?_|intro _)
 refine Wk.loop (fun mm L Z' A' => ∃ j : Nat, j ≤ n ∧ mm = n - j ∧ Z = Z' ∧ Sub A' [] ∧ (∀ i, i < j → ¬ p i) ∧ Kp L [(0, v), (1, fv), (6, v), (7, .int .i64 n), (8, .int .i64 j)]) (n) ⟨0, Nat.zero_le _, rfl, rfl, sub_, fun i h => by omega, kp_⟩ ?_
 rintro mm L Z' A' - ⟨j, hjj, rfl, rfl, hsub, invj, hk⟩
 refine Wk.drop hsub ?_
 refine Wk.kp hk ?_
 clear hk hsub
 (repeat first|refine go ?_|intro _)
 refine Wk.cond rfl (fun hc => ?_) (fun hc => ?_)
 ·have hlt : j < n := by simp at hc; omega
  have e1 : us[j]? = some us[j] := List.getElem?_eq_getElem (by omega)
  have e2 : getCells us (j * 1) 1 = some [us[j]] := getCells_one (by rw [Nat.mul_one]; exact e1)
  (repeat first|refine go ?_|intro _)
  refine Wk.call rfl rfl (Spl.none _) (hp j _ hlt e1) rfl rfl rfl ?_
  rintro v' Z' A' hz ⟨⟨b, rfl, hb⟩, rfl, rfl⟩
  (repeat first|refine go ?_|intro _)
  refine Wk.cond rfl (fun hc => ?_) (fun hc => ?_)
  ·(repeat first|refine go ?_|intro _)
   refine Wk.ret ⟨_, Rs.tmp rfl Rs.nil, _, Sub.none _, ⟨_, rfl, .inl ⟨j, rfl, hlt, hb.1 hc⟩⟩, rfl, rfl⟩
  ·(repeat first|refine go ?_|intro _)
   refine Wk.inv ⟨_, by omega, j + 1, by omega, rfl, rfl, sub_, (nextP invj (fun h => by rw [hb.2 h] at hc; cases hc)), kp_⟩
 ·(repeat first|refine go ?_|intro _)
  refine Wk.ret ⟨_, Rs.tmp rfl Rs.nil, _, Sub.none _, ⟨_, rfl, .inr ⟨rfl, fun i h => invj i (by simp at hc; omega)⟩⟩, rfl, rfl⟩
theorem join11 {Z : Zone} {bt b2 b3 : Nat} {t : Tbl} (h : TabR Z bt t) (i : Int) (d c : Nat) (hd : d < t.elems.length) (hc : c < t.elems.length) (h2 : Z b2 = some (.cells [.pointer (some ⟨bt, 0, none⟩)] true 0)) (h3 : Z b3 = some (.cells [.int .i64 c] true 0)) :
  Cz M (.func (.func 257) #[] ⟨[.pointer (some ⟨b2, 0, none⟩), .pointer (some ⟨b3, 0, none⟩)]⟩) [.int .i64 i, .int .i64 d] Z [] (fun v' Z' A' => Bis v' (t.Bl c d) ∧ Z = Z' ∧ A' = []) := by
 refine Cz.fn (f := Tryz.f257) (by kernel_rfl) rfl rfl rfl _ rfl ?_
 (repeat first|refine go ?_|intro _)
 refine Wk.call rfl rfl (Spl.none _) (isBelow h c d hc hd) rfl rfl rfl ?_
 rintro v' Z' A' hz ⟨hb, rfl, rfl⟩
 (repeat first|refine go ?_|intro _)
 refine Wk.ret ⟨_, Rs.tmp rfl Rs.nil, _, Sub.none _, hb, rfl, rfl⟩
theorem join1 {Z : Zone} {bt b1 b2 : Nat} {t : Tbl} (h : TabR Z bt t) {vl : Value} {l : List Nat} (sl : Sl Z 1 vl l.length (nats l)) (hl : l.length ≤ 1000000) (hin : ∀ a ∈ l, a < t.elems.length) (c : Nat) (hc : c < t.elems.length) (h1 : Z b1 = some (.cells [vl] true 0)) (h2 : Z b2 = some (.cells [.pointer (some ⟨bt, 0, none⟩)] true 0)) :
  Cz M (.func (.func 256) #[] ⟨[.pointer (some ⟨b1, 0, none⟩), .pointer (some ⟨b2, 0, none⟩)]⟩) [.int .i64 c] Z [] (fun v' Z' A' => Bis v' (∀ d ∈ l, t.Bl c d) ∧ Z = Z' ∧ A' = []) := by
 refine Cz.shrink ?_
 refine Cz.fn (f := Tryz.f256) (by kernel_rfl) rfl rfl rfl _ rfl ?_
 (repeat first|refine go ?_|intro _)
 first | refine Wk.freezer Rem.head fun Z1 e1 h3 => ?_ | refine Wk.freeze Rem.head fun Z1 e1 h3 => ?_
 refine Wk.call rfl rfl (Spl.none _) (allInt (fun i => ∀ h : i < l.length, t.Bl c l[i]) (sl.mono e1) hl (fun i u hi hu => by
  rw [nats_get hi] at hu
  obtain rfl := Option.some.inj hu
  exact (join11 (h.mono e1) i l[i] c (hin _ (List.getElem_mem hi)) hc (e1 _ _ h2) h3).mono fun v' Z' A' _ q => ⟨q.1.imp ⟨fun h _ => h, fun h => h hi⟩, q.2⟩)) rfl rfl rfl ?_
 rintro v' Z' A' hz ⟨hb, rfl, rfl⟩
 (repeat first|refine go ?_|intro _)
 refine Wk.ret ⟨_, Rs.tmp rfl Rs.nil, _, Sub.none _, hb.imp ⟨fun h a ha => ?_, fun h i hi _ => h _ (List.getElem_mem hi)⟩, rfl⟩
 obtain ⟨i, hi, rfl⟩ := List.getElem_of_mem ha
 exact h i hi hi
theorem join_ {Z : Zone} {bt : Nat} {t : Tbl} (h : TabR Z bt t) (a b : Nat) (ha : a < t.elems.length) (hb : b < t.elems.length) :
  Cz M (.func (.func 222) #[] #[]) [.pointer (some ⟨bt, 0, none⟩), .int .i64 a, .int .i64 b] Z [] (fun v' Z' A' => (∃ (x : Int) (f : Bool), v' = .tuple ⟨[.int .i64 x, .bool f]⟩ ∧ (f = true → ∃ c : Nat, x = c ∧ t.Jn a b c) ∧ (f = false → ¬ ∃ c, t.Jn a b c)) ∧ Z = Z' ∧ A' = []) := by
 refine Cz.shrink ?_
 refine Cz.fn (f := Tryz.f222) (by kernel_rfl) rfl rfl rfl _ rfl ?_
 (repeat first|refine go ?_|intro _)
 refine Wk.bs rfl rfl rfl rfl rfl rfl rfl fun b14 => ?_
 first | refine Wk.freezer Rem.head fun Z1 e1 h14 => ?_ | refine Wk.freeze Rem.head fun Z1 e1 h14 => ?_
 have s14 : Sl Z1 1 (.slice (some ⟨b14, 0, none⟩) 2 2) [a, b].length (nats [a, b]) := Sl.ofAll h14 rfl (.inl rfl)
 refine Wk.call rfl rfl (Spl.none _) (bounds_ (h.mono e1) s14 (by simp) (by simp [ha, hb])) rfl rfl rfl ?_
 rintro v15 Z2 A' e2 ⟨r, hr, rfl⟩
 have hjn : ∀ c, t.Jn a b c ↔ c ∈ r ∧ ∀ d ∈ r, t.Bl c d := by
  intro c
  have hm := fun x => hr.mem x
  simp only [List.mem_cons, List.not_mem_nil, or_false, forall_eq_or_imp, forall_eq] at hm
  constructor
  ·rintro ⟨h1, h2, h3, h4⟩
   exact ⟨(hm c).2 ⟨h1, h2, h3⟩, fun d hd => have := (hm d).1 hd; h4 d this.1 this.2.1 this.2.2⟩
  ·rintro ⟨h1, h2⟩
   have := (hm c).1 h1
   exact ⟨this.1, this.2.1, this.2.2, fun d k1 k2 k3 => h2 d ((hm d).2 ⟨k1, k2, k3⟩)⟩
 have hrl := hr.len
 have hn := h.ok.2.2.1
 refine Wk.knowr Rem.head (fun s h => ol.form h) ?_
 rintro ⟨ax, cx, rfl⟩
 (repeat first|refine go ?_|intro _)
 first | apply Wk.olFreezer (v := .slice ax r.length cx) | apply Wk.olFreeze (v := .slice ax r.length cx)
 case p => exact rem
 intro Z3 e3 s15
 (repeat first|refine go ?_|intro _)
 first | refine Wk.freezer Rem.head fun Z4 e4 h8 => ?_ | refine Wk.freeze Rem.head fun Z4 e4 h8 => ?_
 first | refine Wk.freezer Rem.head fun Z5 e5 h3 => ?_ | refine Wk.freeze Rem.head fun Z5 e5 h3 => ?_
 have hz := e1.trans (e2.trans (e3.trans (e4.trans e5)))
 have sr := s15.mono (e4.trans e5)
 refine Wk.call rfl rfl (Spl.none _) (indexFnI (fun i => ∀ hi : i < r.length, ∀ d ∈ r, t.Bl r[i] d) sr (by omega) (fun i u hi hu => by
  rw [nats_get hi] at hu
  obtain rfl := Option.some.inj hu
  exact (join1 (h.mono hz) sr (by omega) (fun x hx => ((hr.mem x).1 hx).1) r[i] ((hr.mem _).1 (List.getElem_mem hi)).1 (e5 _ _ h8) h3).mono fun v' Z' A' _ q => ⟨q.1.imp ⟨fun h _ => h, fun h => h hi⟩, q.2⟩)) rfl rfl rfl ?_
 rintro v19 Z' A' hz ⟨⟨x, rfl, hx⟩, rfl, rfl⟩
 rcases hx with ⟨i, rfl, hi, hpi⟩ | ⟨rfl, hno⟩
 ·have hg : getCells (nats r) (i * 1) 1 = some [.int .i64 (r[i] : Nat)] := getCells_one (by rw [Nat.mul_one]; exact nats_get hi)
  have h8' := e5 _ _ h8
  (repeat first|refine go ?_|intro _)
  exact Wk.ret ⟨_, Rs.tmp rfl (Rs.tmp rfl Rs.nil), _, Sub.none _, ⟨_, _, rfl, fun _ => ⟨r[i], rfl, (hjn _).2 ⟨List.getElem_mem hi, hpi hi⟩⟩, fun h => by cases h⟩, rfl⟩
 ·(repeat first|refine go ?_|intro _)
  refine Wk.ret ⟨_, Rs.tmp rfl (Rs.tmp rfl Rs.nil), _, Sub.none _, ⟨_, _, rfl, fun h => (by cases h), fun _ => ?_⟩, rfl⟩
  rintro ⟨c, hc⟩
  obtain ⟨k1, k2⟩ := (hjn c).1 hc
  obtain ⟨i, hi, rfl⟩ := List.getElem_of_mem k1
  exact hno i hi fun _ => k2
theorem pairs_ {Z : Zone} {bt : Nat} {t : Tbl} (h : TabR Z bt t) : Pairs M Z (.func (.func 250) ⟨[.pointer (some ⟨bt, 0, none⟩)]⟩ #[]) t.elems.length := by
 intro yv A0 p Stop hy
 have hn := h.ok.2.2.1
 refine Cz.fn (f := Tryz.f250) (by kernel_rfl) rfl rfl rfl _ rfl ?_
 obtain ⟨nm, ve, va, vw, vs, us, h1, h2, h3, h4⟩ := h.rep
 have se := h2.elems
 (repeat first|refine go ?_|intro _)
 refine Wk.loop (fun mm L Z' A' => ∃ a : Nat, a ≤ t.elems.length ∧ mm = t.elems.length - a ∧ A' = A0 ∧ (∀ x, x < a → ∀ b, b < t.elems.length → p x b) ∧ Kp L [(0, .pointer (some ⟨bt, 0, none⟩)), (1, yv), (11, .int .i64 t.elems.length), (12, .int .i64 a)]) t.elems.length ⟨0, Nat.zero_le _, rfl, rfl, fun x hx => by omega, kp_⟩ ?_
 rintro mm L Z1 A' hz1 ⟨a, hal, rfl, hA, hpa, hk⟩
 subst A'
 refine Wk.kp hk ?_
 clear hk
 (repeat first|refine go ?_|intro _)
 refine Wk.cond rfl (fun hc => ?_) (fun hc => ?_)
 ·have ha : a < t.elems.length := by simp at hc; omega
  have h1' := hz1 _ _ h1
  have se' := se.mono hz1
  (repeat first|refine go ?_|intro _)
  refine Wk.loop (fun mm L Z' A' => ∃ b : Nat, b ≤ t.elems.length ∧ mm = t.elems.length - b ∧ A' = A0 ∧ (∀ x, x < b → p a x) ∧ Kp L [(0, .pointer (some ⟨bt, 0, none⟩)), (1, yv), (4, .int .i64 a), (11, .int .i64 t.elems.length), (12, .int .i64 a), (20, .int .i64 t.elems.length), (21, .int .i64 b)]) t.elems.length ⟨0, Nat.zero_le _, rfl, rfl, fun x hx => by omega, kp_⟩ ?_
  rintro mm L Z2 A' hz2 ⟨b, hbl, rfl, hA, hpb, hk⟩
  subst A'
  refine Wk.kp hk ?_
  clear hk
  (repeat first|refine go ?_|intro _)
  refine Wk.cond rfl (fun hd => ?_) (fun hd => ?_)
  ·have hb : b < t.elems.length := by simp at hd; omega
   (repeat first|refine go ?_|intro _)
   refine Wk.call rfl rfl (Spl.all _) (hy a b Z2 ha hb (hz1.trans hz2)) rfl rfl rfl ?_
   rintro v Z3 A' hz3 (⟨rfl, rfl, hpab⟩ | ⟨rfl, hst⟩)
   ·(repeat first|refine go ?_|intro _)
    exact Wk.inv ⟨_, by omega, b + 1, by omega, rfl, List.append_nil _, nextP hpb hpab, kp_⟩
   ·(repeat first|refine go ?_|intro _)
    exact Wk.ret ⟨_, Rs.nil, _, Sub.refl _, .inr (by rw [List.append_nil]; exact hst)⟩
  ·(repeat first|refine go ?_|intro _)
   exact Wk.inv ⟨_, by omega, a + 1, by omega, rfl, rfl, nextP hpa fun b hb => hpb b (by simp at hd; omega), kp_⟩
 ·(repeat first|refine go ?_|intro _)
  exact Wk.done ⟨_, Rs.nil, _, Sub.refl _, .inl ⟨rfl, fun x b hx hb => hpa x (by simp at hc; omega) b hb⟩⟩
def brk (k : Int) (x y : Int) : List Value := [.int .u8 k, .int .i64 x, .int .i64 y]
theorem wrong_ {Z : Zone} {bt : Nat} {t : Tbl} (h : TabR Z bt t) :
  Cz M (.func (.func 252) #[] #[]) [.pointer (some ⟨bt, 0, none⟩)] Z [] (fun v' Z' A' => (∃ (k x y : Int) (f : Bool), v' = .tuple ⟨[.agg ⟨brk k x y⟩, .bool f]⟩ ∧ (f = true ↔ (t.wr 0 ∨ ∃ a b, a < t.elems.length ∧ b < t.elems.length ∧ t.wr a ∧ ¬ t.wr b ∧ t.Bl a b))) ∧ Z = Z' ∧ A' = []) := by
 refine Cz.shrink ?_
 have hok := h.ok
 obtain ⟨nm, ve, va, vw, vs, us, h1, h2, h3, h4⟩ := h.rep
 have sw := h2.wrong
 have hw0 : 0 < t.wrong.length := by rw [hok.2.2.2.2.1]; exact hok.2.1
 have hwr : ∀ a (ha : a < t.wrong.length), t.wr a ↔ t.wrong[a] = true := fun a ha => by rw [Tbl.wr, List.getElem?_eq_getElem ha]; simp
 refine Cz.fn (f := Tryz.f252) (by kernel_rfl) rfl rfl rfl _ rfl ?_
 (repeat first|refine go ?_|intro _)
 refine Wk.cond rfl (fun hc => ?_) (fun hc => ?_)
 ·(repeat first|refine go ?_|intro _)
  refine Wk.ret ⟨_, Rs.cell rfl rfl has rfl rfl (Rs.cell rfl rfl has rfl rfl Rs.nil), _, Sub.none _, ⟨_, _, _, _, rfl, ?_⟩, rfl⟩
  simp only [true_iff]
  exact .inl ((hwr 0 hw0).2 hc)
 ·have hn0 : ¬ t.wr 0 := fun hh => by rw [(hwr 0 hw0).1 hh] at hc; cases hc
  (repeat first|refine go ?_|intro _)
  refine Wk.rangePairs (nn := t.elems.length) (fun a b => t.wr a → t.Bl a b → t.wr b) (fun _ _ _ => rfl) rfl (pairs_ h) rfl (by simp) (fun a b Z1 l ha hb hz => ?_) (fun Z' hz hall => ?_)
  ·have haw : a < t.wrong.length := by rw [hok.2.2.2.2.1]; exact ha
   have hbw : b < t.wrong.length := by rw [hok.2.2.2.2.1]; exact hb
   have h1' := hz _ _ h1
   have sw' := sw.mono hz
   (repeat first|refine go ?_|intro _)
   refine Wk.done ⟨rfl, rfl, rfl, ?_⟩
   (repeat first|refine go ?_|intro _)
   refine Wk.caser 26 rfl (fun h1 => ?_) (fun h1 => ?_)
   ·have wa := (hwr a haw).2 h1
    (repeat first|refine go ?_|intro _)
    refine Wk.caser 37 rfl (fun h2 => ?_) (fun h2 => ?_)
    ·have wb : ¬ t.wr b := fun hh => by rw [(hwr b hbw).1 hh] at h2; cases h2
     (repeat first|refine go ?_|intro _)
     refine Wk.call rfl rfl (Spl.none _) (isBelow (h.mono hz) a b ha hb) rfl rfl rfl ?_
     rintro v' Z' A' hz' ⟨⟨f, rfl, hf⟩, rfl, rfl⟩
     (repeat first|refine go ?_|intro _)
     refine Wk.cond rfl (fun hd => ?_) (fun hd => ?_)
     ·(repeat first|refine go ?_|intro _)
      refine Wk.ret (.inr ⟨by simp, _, Rem.head, post_ret ?_⟩)
      refine ⟨_, Rs.cell rfl rfl has rfl rfl (Rs.cell rfl rfl has rfl rfl Rs.nil), _, Sub.none _, ⟨_, _, _, _, rfl, ?_⟩, rfl⟩
      simp only [true_iff]
      exact .inr ⟨a, b, ha, hb, wa, wb, hf.1 hd⟩
     ·(repeat first|refine go ?_|intro _)
      exact Wk.done (.inl ⟨rfl, rfl, fun _ hbl => absurd (hf.2 hbl) (by simp [hd])⟩)
    ·(repeat first|refine go ?_|intro _)
     exact Wk.done (.inl ⟨rfl, rfl, fun _ _ => (hwr b hbw).2 (by simpa using h2)⟩)
   ·(repeat first|refine go ?_|intro _)
    exact Wk.done (.inl ⟨rfl, rfl, fun hh => absurd ((hwr a haw).1 hh) (by simp [h1])⟩)
  ·(repeat first|refine go ?_|intro _)
   refine Wk.ret ⟨_, Rs.cell rfl rfl has rfl rfl (Rs.cell rfl rfl has rfl rfl Rs.nil), _, Sub.none _, ⟨_, _, _, _, rfl, ?_⟩, rfl⟩
   simp only [Bool.false_eq_true, false_iff]
   rintro (hh | ⟨a, b, ha, hb, wa, wb, hbl⟩)
   ·exact hn0 hh
   ·exact wb (hall a b ha hb wa hbl)
theorem brk1 {Z : Zone} {bt b1 : Nat} {t : Tbl} (h : TabR Z bt t) (h1 : Z b1 = some (.cells [.pointer (some ⟨bt, 0, none⟩)] true 0)) (a : Nat) (ha : a < t.elems.length) :
  Cz M (.func (.func 248) #[] ⟨[.pointer (some ⟨b1, 0, none⟩)]⟩) [.int .i64 a] Z [] (fun v' Z' A' => Bis v' (t.St a a) ∧ Z = Z' ∧ A' = []) := by
 obtain ⟨nm, ve, va, vw, vs, us, h1', h2, h3, h4⟩ := h.rep
 obtain ⟨u, l, k1, k2, k3, k4⟩ := h4 a ha
 have hg : getCells us (a * 1) 1 = some [u] := getCells_one (by rw [Nat.mul_one]; exact k1)
 have hal : a < l.length := by omega
 refine Cz.fn (f := Tryz.f248) (by kernel_rfl) rfl rfl rfl _ rfl ?_
 (repeat first|refine go ?_|intro _)
 refine Wk.ret ⟨_, Rs.tmp rfl Rs.nil, _, Sub.none _, Bis.of (by rw [← k4 a, List.getElem?_eq_getElem hal]; simp), rfl, rfl⟩
theorem brk2 {Z : Zone} {bt b1 : Nat} {t : Tbl} (h : TabR Z bt t) (h1 : Z b1 = some (.cells [.pointer (some ⟨bt, 0, none⟩)] true 0)) (a : Nat) (ha : a < t.elems.length) :
  Cz M (.func (.func 249) #[] ⟨[.pointer (some ⟨b1, 0, none⟩)]⟩) [.int .i64 a] Z [] (fun v' Z' A' => Bis v' (¬ t.Bl 0 a) ∧ Z = Z' ∧ A' = []) := by
 have h0 : 0 < t.elems.length := h.ok.2.1
 refine Cz.fn (f := Tryz.f249) (by kernel_rfl) rfl rfl rfl _ rfl ?_
 (repeat first|refine go ?_|intro _)
 refine Wk.call rfl rfl (Spl.none _) (isBelow h 0 a h0 ha) rfl rfl rfl ?_
 rintro v' Z' A' hz ⟨⟨f, rfl, hf⟩, rfl, rfl⟩
 (repeat first|refine go ?_|intro _)
 refine Wk.ret ⟨_, Rs.tmp rfl Rs.nil, _, Sub.none _, Bis.of (by rw [← hf]; simp), rfl, rfl⟩
theorem broken_ {Z : Zone} {bt : Nat} {t : Tbl} (h : TabR Z bt t) :
  Cz M (.func (.func 215) #[] #[]) [.pointer (some ⟨bt, 0, none⟩)] Z [] (fun v' Z' A' => (∃ (k x y : Int) (f : Bool), v' = .tuple ⟨[.agg ⟨brk k x y⟩, .bool f]⟩ ∧ (f = true ↔ ¬ t.Lat)) ∧ Z = Z' ∧ A' = []) := by
 refine Cz.shrink ?_
 refine Cz.fn (f := Tryz.f215) (by kernel_rfl) rfl rfl rfl _ rfl ?_
 (repeat first|refine go ?_|intro _)
 refine Wk.freezer (Rem.tail (Rem.tail Rem.head)) fun Z1 e1 h1 => ?_
 have h := h.mono e1
 refine Wk.call rfl rfl (Spl.none _) (first_ (fun a => t.St a a) h (fun a ha => brk1 h h1 a ha)) rfl rfl rfl ?_
 rintro v' Z' A' hz ⟨⟨r, f, rfl, hf⟩, rfl, rfl⟩
 (repeat first|refine go ?_|intro _)
 refine Wk.cond rfl (fun hc => ?_) (fun hc => ?_)
 ·(repeat first|refine go ?_|intro _)
  refine Wk.ret ⟨_, Rs.cell rfl rfl has rfl rfl (Rs.cell rfl rfl has rfl rfl Rs.nil), _, Sub.none _, ⟨_, _, _, _, rfl, ?_⟩, rfl⟩
  simp only [true_iff]
  obtain ⟨a, ha, hst⟩ := hf.1 hc
  exact fun hl => hl.1 a ha hst
 have p1 : ∀ a, a < t.elems.length → ¬ t.St a a := fun a ha hst => by rw [hf.2 ⟨a, ha, hst⟩] at hc; cases hc
 clear hf hc
 (repeat first|refine go ?_|intro _)
 refine Wk.call rfl rfl (Spl.none _) (first_ (fun a => ¬ t.Bl 0 a) h (fun a ha => brk2 h h1 a ha)) rfl rfl rfl ?_
 rintro v' Z' A' hz ⟨⟨r, f, rfl, hf⟩, rfl, rfl⟩
 (repeat first|refine go ?_|intro _)
 refine Wk.cond rfl (fun hc => ?_) (fun hc => ?_)
 ·(repeat first|refine go ?_|intro _)
  refine Wk.ret ⟨_, Rs.cell rfl rfl has rfl rfl (Rs.cell rfl rfl has rfl rfl Rs.nil), _, Sub.none _, ⟨_, _, _, _, rfl, ?_⟩, rfl⟩
  simp only [true_iff]
  obtain ⟨a, ha, hbl⟩ := hf.1 hc
  exact fun hl => hbl (hl.2.1 a ha)
 have p2 : ∀ a, a < t.elems.length → t.Bl 0 a := fun a ha => Classical.byContradiction fun hbl => by rw [hf.2 ⟨a, ha, hbl⟩] at hc; cases hc
 clear hf hc
 (repeat first|refine go ?_|intro _)
 refine Wk.rangePairs (nn := t.elems.length) (fun a b => a < b → ∃ c, t.Jn a b c) (fun _ _ _ => rfl) rfl (pairs_ h) rfl (by simp) (fun a b Z2 l ha hb hz => ?_) (fun Z2 hz hall => ?_)
 ·have h' := h.mono hz
  have h1' := hz _ _ h1
  (repeat first|refine go ?_|intro _)
  refine Wk.done ⟨rfl, rfl, rfl, ?_⟩
  (repeat first|refine go ?_|intro _)
  refine Wk.call rfl rfl (Spl.none _) (join_ h' a b ha hb) rfl rfl rfl ?_
  rintro v' Z' A' hz' ⟨⟨x, f, rfl, hf1, hf2⟩, rfl, rfl⟩
  (repeat first|refine go ?_|intro _)
  refine Wk.caser 42 rfl (fun hc => ?_) (fun hc => ?_)
  ·(repeat first|refine go ?_|intro _)
   obtain ⟨c, _, hj⟩ := hf1 hc
   exact Wk.done (.inl ⟨rfl, rfl, fun _ => ⟨c, hj⟩⟩)
  ·(repeat first|refine go ?_|intro _)
   refine Wk.cond rfl (fun hd => ?_) (fun hd => ?_)
   ·(repeat first|refine go ?_|intro _)
    exact Wk.done (.inl ⟨rfl, rfl, fun hab => by simp at hd; omega⟩)
   ·have hab : a < b := by simp at hd; omega
    have nl : ¬ t.Lat := fun hl => hf2 hc (hl.2.2.1 a b hab hb)
    (repeat first|refine go ?_|intro _)
    refine Wk.bs rfl rfl rfl rfl rfl rfl rfl fun b50 => ?_
    first | refine Wk.freezer Rem.head fun Z3 e3 h50 => ?_ | refine Wk.freeze Rem.head fun Z3 e3 h50 => ?_
    have s50 : Sl Z3 1 (.slice (some ⟨b50, 0, none⟩) 2 2) [a, b].length (nats [a, b]) := Sl.ofAll h50 rfl (.inl rfl)
    refine Wk.call rfl rfl (Spl.none _) (bounds_ (h'.mono e3) s50 (by simp) (by simp [ha, hb])) rfl rfl rfl ?_
    rintro v51 Z4 A' e4 ⟨r, hr, rfl⟩
    (repeat first|refine go ?_|intro _)
    refine Wk.cond rfl (fun hd => ?_) (fun hd => ?_)
    ·(repeat first|refine go ?_|intro _)
     refine Wk.ret (.inr ⟨by simp, _, Rem.tail Rem.head, post_ret ?_⟩)
     refine ⟨_, Rs.cell rfl rfl has rfl rfl (Rs.cell rfl rfl has rfl rfl Rs.nil), _, Sub.none _, ⟨_, _, _, _, rfl, by simp [nl]⟩, rfl⟩
    ·(repeat first|refine go ?_|intro _)
     refine Wk.ret (.inr ⟨by simp, _, Rem.tail Rem.head, post_ret ?_⟩)
     refine ⟨_, Rs.cell rfl rfl has rfl rfl (Rs.cell rfl rfl has rfl rfl Rs.nil), _, Sub.none _, ⟨_, _, _, _, rfl, by simp [nl]⟩, rfl⟩
 ·have h' := h.mono hz
  have h1' := hz _ _ h1
  (repeat first|refine go ?_|intro _)
  refine Wk.call rfl rfl (Spl.none _) (wrong_ h') rfl rfl rfl ?_
  rintro v' Z' A' hz' ⟨⟨k, x, y, f, rfl, hf⟩, rfl, rfl⟩
  (repeat first|refine go ?_|intro _)
  refine Wk.ret ⟨_, Rs.cell rfl rfl has rfl rfl (Rs.cell rfl rfl has rfl rfl Rs.nil), _, Sub.none _, ⟨_, _, _, _, rfl, ?_⟩, rfl⟩
  rw [hf]
  constructor
  ·rintro (hh | ⟨a, b, ha, hb, wa, wb, hbl⟩) hl
   ·exact hl.2.2.2.1 hh
   ·exact wb (hl.2.2.2.2 a b ha hb wa hbl)
  ·intro nl
   refine Classical.byContradiction fun hh => nl ⟨p1, p2, fun a b hab hb => hall a b (by omega) hb hab, fun hw => hh (.inl hw), fun a b ha hb wa hbl => ?_⟩
   exact Classical.byContradiction fun wb => hh (.inr ⟨a, b, ha, hb, wa, wb, hbl⟩)
theorem open_ {Z : Zone} {nm : ByteArray} {ve va vw : Value} {t : Tbl} (h : TbR Z nm ve va vw t) (ht : t.Sm) :
  Cz M (.func (.func 214) #[] #[]) [.agg ⟨[.string nm, ve, va, vw]⟩] Z [] (fun v' Z' A' => ((t.Ok ∧ ∃ bt, v' = .tuple ⟨[.pointer (some ⟨bt, 0, none⟩), .int .i64 0]⟩ ∧ TabR Z' bt t) ∨ (¬ t.Ok ∧ v' = .tuple ⟨[.pointer none, .int .i64 4]⟩)) ∧ A' = []) := by
 have se := h.elems
 obtain ⟨ae, ce, rfl⟩ := h.elems.form
 obtain ⟨us0, sa, _⟩ := h.above
 obtain ⟨aa, ca, rfl⟩ := sa.form
 obtain ⟨aw, cw, rfl⟩ := h.wrong.form
 refine Cz.fn (f := Tryz.f214) (by kernel_rfl) rfl rfl rfl _ rfl ?_
 (repeat first|refine go ?_|intro _)
 refine Wk.call rfl rfl (Spl.none _) (ChkO h ht) rfl rfl rfl ?_
 rintro v8 Z' A' hz ⟨hE, rfl, rfl⟩
 rcases hE with ⟨ok, rfl⟩ | ⟨nok, rfl⟩
 ·(repeat first|refine go ?_|intro _)
  rename_i bt
  have hn := ok.2.2.1
  refine Wk.olNil 1 ?_
  refine Wk.loop (fun mm L Z' A' => ∃ (j : Nat) (v4 : Value) (us : List Value), j ≤ t.elems.length ∧ mm = t.elems.length - j ∧ us.length = j ∧ (∀ a, a < j → ∃ (u : Value) (l : List Bool), us[a]? = some u ∧ Sl Z' 1 u t.elems.length (l.map Value.bool) ∧ l.length = t.elems.length ∧ ∀ c : Nat, l[c]? = some true ↔ t.St a c) ∧ Sub A' [ol 1 v4 j us, pt bt (.cells [.string nm, .slice ae t.elems.length ce, .slice aa t.above.length ca, .slice aw t.wrong.length cw, v4] true 0)] ∧ Kp L [(5, .pointer (some ⟨bt, 0, none⟩)), (17, .int .i64 t.elems.length), (18, .int .i64 j)]) t.elems.length ⟨0, _, [], Nat.zero_le _, rfl, rfl, fun a h => by omega, sub_, kp_⟩ ?_
  rintro mm L Z1 A' hz1 ⟨j, v4, us, hj, rfl, hul, hus, hsub, hk⟩
  refine Wk.drop hsub ?_
  refine Wk.kp hk ?_
  clear hk hsub
  have h1 := h.mono hz1
  (repeat first|refine go ?_|intro _)
  refine Wk.cond rfl (fun hc => ?_) (fun hc => ?_)
  ·have hlt : j < t.elems.length := by simp at hc; omega
   have hja : j < t.above.length := by rw [ok.2.2.2.1]; exact hlt
   first | refine Wk.knowr rem (fun s h => ol.form (v := v4) h) ?_ | refine Wk.know rem (fun s h => ol.form (v := v4) h) ?_
   rintro ⟨a4, c4, rfl⟩
   (repeat first|refine go ?_|intro _)
   refine Wk.drawr (ms := [0, 0, 2, 6, 14, 0, 0, 96, 224, 510, 1023, 2047, 4095]) (l := [0, 1, 2, 3, 4, 5, 6, 7, 8, 9, 10, 11, 12]) (by kernel_rfl) (by kernel_rfl) (by kernel_rfl) rfl ?_
   (repeat first|refine go ?_|intro _)
   refine Wk.callD rfl rfl (.r (.l .nil)) (from_ h1 ht ok j hja) rfl rfl fun v28 Z2 A' hz2 hq => ?_
   obtain ⟨rfl, l, hll, hl, rfl⟩ := hq
   refine ⟨?_, ?_⟩
   ·exact pnb
   first | refine Wk.knowr rem (fun s h => ol.form (v := v28) h) ?_ | refine Wk.know rem (fun s h => ol.form (v := v28) h) ?_
   rintro ⟨a28, c28, rfl⟩
   first | apply Wk.olFreezer (v := .slice a28 t.elems.length c28) | apply Wk.olFreeze (v := .slice a28 t.elems.length c28)
   case p => exact rem
   intro Z3 e3 s28
   (repeat first|refine go ?_|intro _)
   refine Wk.bs rfl rfl rfl rfl rfl rfl rfl fun b29 => ?_
   refine Wk.append rfl rfl rfl rfl rfl rfl rfl rfl rem (Src.lit has rfl) rfl rfl rfl (by omega) (by omega) (by kernel_rfl) rfl rfl fun v30 => ?_
   first | refine Wk.knowr rem (fun s h => ol.form (v := v30) h) ?_ | refine Wk.know rem (fun s h => ol.form (v := v30) h) ?_
   rintro ⟨a30, c30, rfl⟩
   (repeat first|refine go ?_|intro _)
   refine Wk.inv ⟨_, by omega, j + 1, _, us ++ [.slice a28 t.elems.length c28], by omega, rfl, by simp [hul], fun a ha => ?_, sub_, kp_⟩
   by_cases e : a = j
   ·subst e
    exact ⟨_, l, by rw [← hul]; simp, s28, hll, hl⟩
   ·obtain ⟨u, l', k1, k2, k3⟩ := hus a (by omega)
    exact ⟨u, l', by rw [List.getElem?_append_left (by omega)]; exact k1, k2.mono e3, k3⟩
  ·have hjn : j = t.elems.length := by simp at hc; omega
   subst hjn
   first | apply Wk.olFreezer (v := v4) | apply Wk.olFreeze (v := v4)
   case p => exact rem
   intro Z2 e2 s4
   first | refine Wk.freezer Rem.head fun Z3 e3 hbt => ?_ | refine Wk.freeze Rem.head fun Z3 e3 hbt => ?_
   (repeat first|refine go ?_|intro _)
   refine Wk.ret ⟨_, Rs.tmp rfl (Rs.tmp rfl Rs.nil), _, Sub.none _, .inl ⟨ok, _, rfl, ok, ht, ?_⟩, rfl⟩
   exact ⟨nm, _, _, _, _, us, hbt, h1.mono (e2.trans e3), s4.mono e3, fun a ha => let ⟨u, l, k1, k2, k3⟩ := hus a ha; ⟨u, l, k1, k2.mono (e2.trans e3), k3⟩⟩
 ·(repeat first|refine go ?_|intro _)
  exact Wk.ret ⟨_, Rs.tmp rfl (Rs.tmp rfl Rs.nil), _, Sub.none _, .inr ⟨nok, rfl⟩, rfl⟩
def ProveR (t : Tbl) (v : Value) : Prop := ∃ k x y e : Int, v = .tuple ⟨[.agg ⟨brk k x y⟩, .int .i64 e]⟩ ∧ (e = 0 ↔ t.Ok ∧ t.Lat)
theorem Prove_ {Z : Zone} {nm : ByteArray} {ve va vw : Value} {t : Tbl} (h : TbR Z nm ve va vw t) (ht : t.Sm) :
  Cz M (.func (.func 151) #[] #[]) [.agg ⟨[.string nm, ve, va, vw]⟩] Z [] (fun v' Z' A' => ProveR t v' ∧ Z = Z' ∧ A' = []) := by
 refine Cz.shrink ?_
 refine Cz.fn (f := Tryz.f151) (by kernel_rfl) rfl rfl rfl _ rfl ?_
 (repeat first|refine go ?_|intro _)
 refine Wk.call rfl rfl (Spl.none _) (open_ h ht) rfl rfl rfl ?_
 rintro v' Z1 A' hz ⟨hop, rfl⟩
 rcases hop with ⟨ok, bt, rfl, hb⟩ | ⟨nok, rfl⟩
 ·(repeat first|refine go ?_|intro _)
  refine Wk.call rfl rfl (Spl.none _) (broken_ hb) rfl rfl rfl ?_
  rintro v' Z' A' hz' ⟨⟨k, x, y, f, rfl, hf⟩, rfl, rfl⟩
  (repeat first|refine go ?_|intro _)
  refine Wk.cond rfl (fun hc => ?_) (fun hc => ?_)
  ·(repeat first|refine go ?_|intro _)
   refine Wk.ret ⟨_, Rs.cell rfl rfl has rfl rfl (Rs.tmp rfl Rs.nil), _, Sub.none _, ⟨_, _, _, _, rfl, ?_⟩, rfl⟩
   have := hf.1 hc
   simp [this]
  ·have hl : t.Lat := Classical.byContradiction fun hn => by rw [hf.2 hn] at hc; cases hc
   (repeat first|refine go ?_|intro _)
   refine Wk.ret ⟨_, Rs.cell rfl rfl has rfl rfl (Rs.tmp rfl Rs.nil), _, Sub.none _, ⟨_, _, _, _, rfl, ?_⟩, rfl⟩
   simp [ok, hl]
 ·(repeat first|refine go ?_|intro _)
  refine Wk.ret ⟨_, Rs.cell rfl rfl has rfl rfl (Rs.tmp rfl Rs.nil), _, Sub.none _, ⟨_, _, _, _, rfl, ?_⟩, rfl⟩
  simp [nok]
theorem levels_ : ∀ (d : Nat) {s : Shp} {Z : Zone} {cs : List Value}, s.levels ≤ d → d ≤ 1000000 → Shp.Sm d s → ShR Z s cs →
  Cz M (.func (.func 154) #[] #[]) [.agg ⟨cs⟩] Z [] (fun v' Z' A' => v' = .int .i64 (s.levels : Nat) ∧ Z = Z' ∧ A' = [])
 | 0, s, Z, cs, hd, _, _, _ => by have := s.levels_pos; omega
 | d + 1, s, Z, cs, hd, hd1, hsm, h => by
  obtain ⟨a, c, us, rfl, hs, hL⟩ := h.form
  have hlv : s.levels = levelsL s.kids + 1 := by cases s; simp only [Shp.levels, Shp.kids]
  have hkl := hsm.2.1
  refine Cz.fn (f := Tryz.f154) (by kernel_rfl) rfl rfl rfl _ rfl ?_
  (repeat first|refine go ?_|intro _)
  refine Wk.loop (fun mm L Z' A' => ∃ j : Nat, j ≤ s.kids.length ∧ mm = s.kids.length - j ∧ Z = Z' ∧ Sub A' [] ∧ (True) ∧ Kp L [(2, .int .i64 (levelsL (s.kids.take j) : Nat)), (6, .slice a s.kids.length c), (7, .int .i64 s.kids.length), (8, .int .i64 j)]) (s.kids.length) ⟨0, Nat.zero_le _, rfl, rfl, sub_, trivial, kp_⟩ ?_
  rintro mm L Z' A' - ⟨j, hjj, rfl, rfl, hsub, invj, hk⟩
  refine Wk.drop hsub ?_
  refine Wk.kp hk ?_
  clear hk hsub
  (repeat first|refine go ?_|intro _)
  refine Wk.cond rfl (fun hc => ?_) (fun hc => ?_)
  ·have hlt : j < s.kids.length := by simp at hc; omega
   obtain ⟨k, n, a1, m1, c1, g1, r1⟩ := hL.get j hlt
   have hkd := s.kid_levels hd hlt
   (repeat first|refine go ?_|intro _)
   refine Wk.call rfl rfl (Spl.none _) (levels_ d hkd (by omega) (hsm.2.2 _ (List.getElem_mem hlt)) r1) rfl rfl rfl ?_
   rintro v' Z' A' hz ⟨rfl, rfl, rfl⟩
   (repeat first|refine go ?_|intro _)
   refine Wk.inv ⟨_, by omega, j + 1, hlt, rfl, rfl, sub_, trivial, ?_, rfl, rfl, rfl, trivial⟩
   refine eqI ?_
   rw [levelsL_take hlt]
   split <;> omega
  ·have hj : j = s.kids.length := by simp at hc; omega
   subst hj
   have e : s.kids.take s.kids.length = s.kids := List.take_length
   rw [e]
   (repeat first|refine go ?_|intro _)
   refine Wk.ret ⟨_, Rs.tmp rfl Rs.nil, _, Sub.none _, by rw [hlv]; rfl, rfl, rfl⟩
theorem kids_ {Z : Zone} : Cz M (.func (.func 216) #[] #[]) [] Z [] (fun v' Z' A' => Z = Z' ∧ ∃ b, v' = .map (some b) ∧ A' = [pt b (.map (kidE.map fun p => (.int .u8 p.1, p.2)))]) := by
 refine Cz.fn (f := Tryz.f216) (by kernel_rfl) rfl rfl rfl _ rfl ?_
 (repeat first|refine go ?_|intro _)
 refine Wk.mkm rfl rfl rfl fun b => ?_
 repeat (refine Wk.insert rfl rfl rfl rfl (by kernel_rfl) (by kernel_rfl) Upd.head rfl rfl ?_)
 (repeat first|refine go ?_|intro _)
 refine Wk.ret ⟨_, Rs.tmp rfl Rs.nil, _, Sub.refl _, rfl, b, rfl, rfl⟩
theorem shp1 {Z : Zone} {d : Nat} {s : Shp} {cs : List Value} (i : Int) (ih : ∀ {Z : Zone} {cs : List Value}, ShR Z s cs → Cz M (.func (.func 156) #[] #[]) [.agg ⟨cs⟩] Z [] (fun v' Z' A' => Bis v' s.Ok ∧ Z = Z' ∧ A' = [])) (h : ShR Z s cs) :
  Cz M (.func (.func 218) #[] #[]) [.int .i64 i, .agg ⟨cs⟩] Z [] (fun v' Z' A' => Bis v' s.Ok ∧ Z = Z' ∧ A' = []) := by
 obtain ⟨a, c, us, rfl, hs, hL⟩ := h.form
 refine Cz.fn (f := Tryz.f218) (by kernel_rfl) rfl rfl rfl _ rfl ?_
 (repeat first|refine go ?_|intro _)
 refine Wk.call rfl rfl (Spl.none _) (ih h) rfl rfl rfl ?_
 rintro v' Z' A' hz ⟨hb, rfl, rfl⟩
 (repeat first|refine go ?_|intro _)
 refine Wk.ret ⟨_, Rs.tmp rfl Rs.nil, _, Sub.none _, hb, rfl, rfl⟩
theorem isShape_ : ∀ (d : Nat) {s : Shp} {Z : Zone} {cs : List Value}, s.levels ≤ d → d ≤ 1000000 → Shp.Sm d s → ShR Z s cs →
  Cz M (.func (.func 156) #[] #[]) [.agg ⟨cs⟩] Z [] (fun v' Z' A' => Bis v' s.Ok ∧ Z = Z' ∧ A' = [])
 | 0, s, Z, cs, hd, _, _, _ => by have := s.levels_pos; omega
 | d + 1, s, Z, cs, hd0, hd1, hsm, h => by
  obtain ⟨a, c, us, rfl, hs, hL⟩ := h.form
  have hnm := hsm.1
  have hkl := hsm.2.1
  have hOk : s.Ok ↔ kidsOf s.kind = some s.kids.length ∧ (s.kind = 5 → IsTableName s.name) ∧ (s.kind ≠ 5 → s.name.size = 0) ∧ ∀ k ∈ s.kids, k.Ok := by
   cases s; simp only [Shp.Ok, Shp.kind, Shp.name, Shp.kids, ShpOkL_iff]
  refine Cz.fn (f := Tryz.f156) (by kernel_rfl) rfl rfl rfl _ rfl ?_
  (repeat first|refine go ?_|intro _)
  refine Wk.drawr (ms := [0, 0, 2, 7, 15, 31, 31, 63, 255]) (l := [1, 2, 0, 3, 4, 5, 6, 7, 8]) (by kernel_rfl) (by kernel_rfl) (by kernel_rfl) rfl ?_
  (repeat first|refine go ?_|intro _)
  refine Wk.callD rfl rfl (Spl.none _) kids_ rfl rfl fun v7 Z1 A' hz hq => ?_
  obtain ⟨rfl, b7, rfl, rfl⟩ := hq
  refine ⟨?_, ?_⟩
  ·exact pnb
  have hkf := keyFind_int (T := M.T) (kt := 5) (q := .u8) rfl s.kind kidE 0
  rcases kid_found s.kind with ⟨m, hk, hf⟩ | ⟨hk, hf⟩
  ·rw [hf] at hkf
   refine Wk.lookup rfl rfl rfl rfl has rfl hkf rfl rfl rfl rfl ?_
   (repeat first|refine go ?_|intro _)
   refine Wk.caser 25 rfl (fun hc => ?_) (fun hc => ?_)
   ·(repeat first|refine go ?_|intro _)
    refine Wk.ret ⟨_, Rs.tmp rfl Rs.nil, _, Sub.none _, Bis.of (by rw [hOk, hk]; simp at hc ⊢; omega), rfl, rfl⟩
   have hm : m = s.kids.length := by simp at hc; omega
   subst hm
   refine Wk.caser 5 rfl (fun h5 => ?_) (fun h5 => ?_)
   ·have h5' : s.kind = 5 := by simpa using h5
    (repeat first|refine go ?_|intro _)
    refine Wk.call rfl rfl (Spl.none _) (isTable s.name hnm) rfl rfl rfl ?_
    rintro v' Z' A' hz ⟨⟨b, rfl, hb⟩, rfl, rfl⟩
    (repeat first|refine go ?_|intro _)
    refine Wk.caser 34 rfl (fun hd => ?_) (fun hd => ?_)
    ·(repeat first|refine go ?_|intro _)
     refine Wk.ret ⟨_, Rs.tmp rfl Rs.nil, _, Sub.none _, Bis.of (by simp at hd; simp only [Bool.false_eq_true, false_iff]; intro ok; rw [hb.2 ((hOk.1 ok).2.1 h5')] at hd; cases hd), rfl, rfl⟩
    ·have hT : IsTableName s.name := hb.1 (by simpa using hd)
     (repeat first|refine go ?_|intro _)
     obtain ⟨cs, hcs⟩ := hL.rws
     refine Wk.call rfl rfl (Spl.none _) (allShp (cs := cs) (fun i => ∃ h : i < s.kids.length, s.kids[i].Ok) hs (fun i hi => ⟨(hcs i hi).1, (hcs i hi).2.1⟩) hkl (fun i hi => (shp1 (d := d) i (fun h => isShape_ d (s.kid_levels hd0 hi) (by omega) (hsm.2.2 _ (List.getElem_mem hi)) h) (hcs i hi).2.2).mono fun v' Z' A' _ q => ⟨q.1.imp ⟨fun h => ⟨hi, h⟩, fun ⟨_, h⟩ => h⟩, q.2⟩)) rfl rfl rfl ?_
     rintro v' Z' A' hz ⟨hb2, rfl, rfl⟩
     (repeat first|refine go ?_|intro _)
     refine Wk.ret ⟨_, Rs.tmp rfl Rs.nil, _, Sub.none _, hb2.imp ?_, rfl, rfl⟩
     rw [hOk]
     constructor
     ·intro h
      refine ⟨hk, fun _ => hT, fun h => absurd h5' h, fun k hk => ?_⟩
      obtain ⟨i, hi, rfl⟩ := List.getElem_of_mem hk
      exact (h i hi).2
     ·rintro ⟨_, _, _, h⟩ i hi
      exact ⟨hi, h _ (List.getElem_mem hi)⟩
   ·have h5' : s.kind ≠ 5 := by simpa using h5
    (repeat first|refine go ?_|intro _)
    refine Wk.cond rfl (fun hd => ?_) (fun hd => ?_)
    ·(repeat first|refine go ?_|intro _)
     refine Wk.ret ⟨_, Rs.tmp rfl Rs.nil, _, Sub.none _, Bis.of (by simp only [Bool.false_eq_true, false_iff]; intro ok; have := size0.1 ((hOk.1 ok).2.2.1 h5'); rw [this, empty_eq] at hd; cases hd), rfl, rfl⟩
    ·have hN : s.name.size = 0 := size0.2 (strEq.1 (by simpa using hd))
     (repeat first|refine go ?_|intro _)
     obtain ⟨cs, hcs⟩ := hL.rws
     refine Wk.call rfl rfl (Spl.none _) (allShp (cs := cs) (fun i => ∃ h : i < s.kids.length, s.kids[i].Ok) hs (fun i hi => ⟨(hcs i hi).1, (hcs i hi).2.1⟩) hkl (fun i hi => (shp1 (d := d) i (fun h => isShape_ d (s.kid_levels hd0 hi) (by omega) (hsm.2.2 _ (List.getElem_mem hi)) h) (hcs i hi).2.2).mono fun v' Z' A' _ q => ⟨q.1.imp ⟨fun h => ⟨hi, h⟩, fun ⟨_, h⟩ => h⟩, q.2⟩)) rfl rfl rfl ?_
     rintro v' Z' A' hz ⟨hb2, rfl, rfl⟩
     (repeat first|refine go ?_|intro _)
     refine Wk.ret ⟨_, Rs.tmp rfl Rs.nil, _, Sub.none _, hb2.imp ?_, rfl, rfl⟩
     rw [hOk]
     constructor
     ·intro h
      refine ⟨hk, fun h => absurd h h5', fun _ => hN, fun k hk => ?_⟩
      obtain ⟨i, hi, rfl⟩ := List.getElem_of_mem hk
      exact (h i hi).2
     ·rintro ⟨_, _, _, h⟩ i hi
      exact ⟨hi, h _ (List.getElem_mem hi)⟩
  ·rw [hf] at hkf
   refine Wk.lookup rfl rfl rfl rfl has rfl hkf rfl rfl rfl rfl ?_
   (repeat first|refine go ?_|intro _)
   refine Wk.ret ⟨_, Rs.tmp rfl Rs.nil, _, Sub.none _, Bis.of (by rw [hOk, hk]; simp), rfl, rfl⟩
def Tells (Z : Zone) (fv : Value) (p : ByteArray → Prop) : Prop := ∀ Z1, Ext Z Z1 → ∀ x : ByteArray, x.size ≤ 1000000 → Cz M fv [.string x] Z1 [] (fun v' Z' A' => Bis v' (p x) ∧ Z1 = Z' ∧ A' = [])
mutual
def Shp.All (p : ByteArray → Prop) : Shp → Prop
 | .mk k n l => (k = 5 → p n) ∧ ShpAllL p l
def ShpAllL (p : ByteArray → Prop) : List Shp → Prop
 | [] => True
 | s :: r => s.All p ∧ ShpAllL p r
end
theorem ShpAllL_iff {p : ByteArray → Prop} : ∀ {l : List Shp}, ShpAllL p l ↔ ∀ s ∈ l, s.All p
 | [] => by simp [ShpAllL]
 | s :: r => by simp [ShpAllL, ShpAllL_iff (l := r)]
theorem Shp.all_iff {p : ByteArray → Prop} {s : Shp} : s.All p ↔ (s.kind = 5 → p s.name) ∧ ∀ k ∈ s.kids, k.All p := by
 cases s; simp only [Shp.All, Shp.kind, Shp.name, Shp.kids, ShpAllL_iff]
mutual
theorem Shp.named_all {ts : List Tbl} : ∀ {s : Shp}, s.Named ts ↔ s.All (fun n => ∃ t ∈ ts, t.name = n)
 | .mk k n l => by simp only [Shp.Named, Shp.All, ShpNamedL_all (l := l)]
theorem ShpNamedL_all {ts : List Tbl} : ∀ {l : List Shp}, ShpNamedL ts l ↔ ShpAllL (fun n => ∃ t ∈ ts, t.name = n) l
 | [] => by simp only [ShpNamedL, ShpAllL]
 | s :: r => by simp only [ShpNamedL, ShpAllL, Shp.named_all (s := s), ShpNamedL_all (l := r)]
end
theorem Tells.mono {Z Z' : Zone} {fv : Value} {p : ByteArray → Prop} (e : Ext Z Z') (h : Tells Z fv p) : Tells Z' fv p := fun Z1 e1 => h Z1 (e.trans e1)
theorem names1 {Z : Zone} {b3 : Nat} {fv : Value} {p : ByteArray → Prop} {s : Shp} {cs : List Value} (i : Int) (h3 : Z b3 = some (.cells [fv] true 0)) 
  (ih : ∀ {Z1 : Zone} {cs : List Value}, Ext Z Z1 → ShR Z1 s cs → Cz M (.func (.func 157) #[] #[]) [.agg ⟨cs⟩, fv] Z1 [] (fun v' Z' A' => Bis v' (s.All p) ∧ Z1 = Z' ∧ A' = [])) (h : ShR Z s cs) :
  Cz M (.func (.func 219) #[] ⟨[.pointer (some ⟨b3, 0, none⟩)]⟩) [.int .i64 i, .agg ⟨cs⟩] Z [] (fun v' Z' A' => Bis v' (s.All p) ∧ Z = Z' ∧ A' = []) := by
 obtain ⟨a, c, us, rfl, hs, hL⟩ := h.form
 refine Cz.fn (f := Tryz.f219) (by kernel_rfl) rfl rfl rfl _ rfl ?_
 (repeat first|refine go ?_|intro _)
 refine Wk.call rfl rfl (Spl.none _) (ih (Ext.refl _) h) rfl rfl rfl ?_
 rintro v' Z' A' hz ⟨hb, rfl, rfl⟩
 (repeat first|refine go ?_|intro _)
 refine Wk.ret ⟨_, Rs.tmp rfl Rs.nil, _, Sub.none _, hb, rfl, rfl⟩
theorem names_ {p : ByteArray → Prop} : ∀ (d : Nat) {s : Shp} {Z : Zone} {cs : List Value} {fv : Value}, s.levels ≤ d → d ≤ 1000000 → Shp.Sm d s → ShR Z s cs → cellsL fv = [fv] → Tells Z fv p →
  Cz M (.func (.func 157) #[] #[]) [.agg ⟨cs⟩, fv] Z [] (fun v' Z' A' => Bis v' (s.All p) ∧ Z = Z' ∧ A' = [])
 | 0, s, Z, cs, fv, hd, _, _, _, _, _ => by have := s.levels_pos; omega
 | d + 1, s, Z, cs, fv, hd0, hd1, hsm, h, hfv, ht => by
  refine Cz.shrink ?_
  obtain ⟨a, c, us, rfl, hs, hL⟩ := h.form
  have hnm := hsm.1
  have hkl := hsm.2.1
  have hAll := Shp.all_iff (p := p) (s := s)
  refine Cz.fn (f := Tryz.f157) (by kernel_rfl) rfl rfl rfl _ rfl ?_
  (repeat first|refine go ?_|intro _)
  refine Wk.boxS rfl rfl rfl hfv fun b3 => ?_
  (repeat first|refine go ?_|intro _)
  refine Wk.freezer Rem.head fun Z1 e1 h3 => ?_
  have h1 := h.mono e1
  obtain ⟨cs, hcs⟩ := (ShRL.mono e1 hL).rws
  have hs1 := hs.mono e1
  have hcl := fun i (hi : i < s.kids.length) => (names1 (Z := Z1) i h3 (fun e h => names_ d (s.kid_levels hd0 hi) (by omega) (hsm.2.2 _ (List.getElem_mem hi)) h hfv (ht.mono (e1.trans e))) (hcs i hi).2.2).mono (R := fun v' Z' A' => Bis v' (∃ h : i < s.kids.length, s.kids[i].All p) ∧ Z1 = Z' ∧ A' = []) fun v' Z' A' _ q => ⟨q.1.imp ⟨fun h => ⟨hi, h⟩, fun ⟨_, h⟩ => h⟩, q.2⟩
  have hkk : (∀ i, i < s.kids.length → ∃ h : i < s.kids.length, s.kids[i].All p) ↔ ∀ k ∈ s.kids, k.All p := by
   constructor
   ·intro h k hk
    obtain ⟨i, hi, rfl⟩ := List.getElem_of_mem hk
    exact (h i hi).2
   ·intro h i hi
    exact ⟨hi, h _ (List.getElem_mem hi)⟩
  refine Wk.caser 8 rfl (fun hc => ?_) (fun hc => ?_)
  ·have h5 : s.kind = 5 := by simpa using hc
   (repeat first|refine go ?_|intro _)
   refine Wk.call rfl rfl (Spl.none _) (ht Z1 e1 s.name hnm) rfl rfl rfl ?_
   rintro v' Z' A' hz ⟨⟨b, rfl, hb⟩, rfl, rfl⟩
   (repeat first|refine go ?_|intro _)
   refine Wk.cond rfl (fun hd => ?_) (fun hd => ?_)
   ·(repeat first|refine go ?_|intro _)
    refine Wk.ret ⟨_, Rs.tmp rfl Rs.nil, _, Sub.none _, Bis.of ?_, rfl⟩
    simp only [Bool.false_eq_true, false_iff]
    intro ha
    rw [hb.2 ((hAll.1 ha).1 h5)] at hd; cases hd
   ·have hp : p s.name := hb.1 (by simpa using hd)
    (repeat first|refine go ?_|intro _)
    refine Wk.call rfl rfl (Spl.none _) (allShp (cs := cs) _ hs1 (fun i hi => ⟨(hcs i hi).1, (hcs i hi).2.1⟩) hkl hcl) rfl rfl rfl ?_
    rintro v' Z' A' hz ⟨hb2, rfl, rfl⟩
    (repeat first|refine go ?_|intro _)
    refine Wk.ret ⟨_, Rs.tmp rfl Rs.nil, _, Sub.none _, hb2.imp ?_, rfl⟩
    rw [hkk, hAll]
    exact ⟨fun h => ⟨fun _ => hp, h⟩, fun h => h.2⟩
  ·have h5 : s.kind ≠ 5 := by simpa using hc
   (repeat first|refine go ?_|intro _)
   refine Wk.call rfl rfl (Spl.none _) (allShp (cs := cs) _ hs1 (fun i hi => ⟨(hcs i hi).1, (hcs i hi).2.1⟩) hkl hcl) rfl rfl rfl ?_
   rintro v' Z' A' hz ⟨hb2, rfl, rfl⟩
   (repeat first|refine go ?_|intro _)
   refine Wk.ret ⟨_, Rs.tmp rfl Rs.nil, _, Sub.none _, hb2.imp ?_, rfl⟩
   rw [hkk, hAll]
   exact ⟨fun h => ⟨fun h => absurd h h5, h⟩, fun h => h.2⟩
theorem cs1 {Z : Zone} {nm : ByteArray} {ve va vw : Value} {t : Tbl} (i : Int) (h : TbR Z nm ve va vw t) (ht : t.Sm) (hf : okCells [.string nm, ve, va, vw] = true) :
  Cz M (.func (.func 145) #[] #[]) [.int .i64 i, .agg ⟨[.string nm, ve, va, vw]⟩] Z [] (fun v' Z' A' => Bis v' t.Ok ∧ Z = Z' ∧ A' = []) := by
 refine Cz.fn (f := Tryz.f145) (by kernel_rfl) rfl rfl rfl _ rfl ?_
 (repeat first|refine go ?_|intro _)
 refine Wk.call rfl rfl (Spl.none _) (ChkO h ht) rfl rfl rfl ?_
 rintro v' Z' A' hz ⟨hE, rfl, rfl⟩
 rcases hE with ⟨ok, rfl⟩ | ⟨nok, rfl⟩
 ·(repeat first|refine go ?_|intro _)
  refine Wk.ret ⟨_, Rs.tmp rfl Rs.nil, _, Sub.none _, Bis.of (by simp [ok]), rfl, rfl⟩
 ·(repeat first|refine go ?_|intro _)
  refine Wk.ret ⟨_, Rs.tmp rfl Rs.nil, _, Sub.none _, Bis.of (by simp [nok]), rfl, rfl⟩
theorem cs3 {Z : Zone} {nm : ByteArray} {ve va vw : Value} {t : Tbl} (i : Int) (h : TbR Z nm ve va vw t) (ht : t.Sm) (hf : okCells [.string nm, ve, va, vw] = true) :
  Cz M (.func (.func 150) #[] #[]) [.int .i64 i, .agg ⟨[.string nm, ve, va, vw]⟩] Z [] (fun v' Z' A' => Bis v' (t.Ok ∧ t.Lat) ∧ Z = Z' ∧ A' = []) := by
 refine Cz.fn (f := Tryz.f150) (by kernel_rfl) rfl rfl rfl _ rfl ?_
 (repeat first|refine go ?_|intro _)
 refine Wk.call rfl rfl (Spl.none _) (Prove_ h ht) rfl rfl rfl ?_
 rintro v' Z' A' hz ⟨⟨k, x, y, e, rfl, he⟩, rfl, rfl⟩
 (repeat first|refine go ?_|intro _)
 refine Wk.ret ⟨_, Rs.tmp rfl Rs.nil, _, Sub.none _, Bis.of (by rw [← he]; simp), rfl, rfl⟩
theorem cs21 {Z : Zone} {b : Nat} {n1 n2 : ByteArray} {v1 v2 v3 w1 w2 w3 : Value} (hb : Z b = some (.cells [.string n2, w1, w2, w3] true 0)) :
  Cz M (.func (.func 149) #[] ⟨[.pointer (some ⟨b, 0, none⟩)]⟩) [.agg ⟨[.string n1, v1, v2, v3]⟩] Z [] (fun v' Z' A' => Bis v' (n1 = n2) ∧ Z = Z' ∧ A' = []) := by
 refine Cz.fn (f := Tryz.f149) (by kernel_rfl) rfl rfl rfl _ rfl ?_
 (repeat first|refine go ?_|intro _)
 refine Wk.ret ⟨_, Rs.tmp rfl Rs.nil, _, Sub.none _, Bis.of strEq, rfl, rfl⟩
theorem cs41 {Z : Zone} {b : Nat} {n1 n2 : ByteArray} {v1 v2 v3 : Value} (hb : Z b = some (.cells [.string n2] true 0)) :
  Cz M (.func (.func 153) #[] ⟨[.pointer (some ⟨b, 0, none⟩)]⟩) [.agg ⟨[.string n1, v1, v2, v3]⟩] Z [] (fun v' Z' A' => Bis v' (n1 = n2) ∧ Z = Z' ∧ A' = []) := by
 refine Cz.fn (f := Tryz.f153) (by kernel_rfl) rfl rfl rfl _ rfl ?_
 (repeat first|refine go ?_|intro _)
 refine Wk.ret ⟨_, Rs.tmp rfl Rs.nil, _, Sub.none _, Bis.of strEq, rfl, rfl⟩
theorem indexTbl {Z : Zone} {v fv : Value} {ts : List Tbl} (p : Nat → Prop) (s : TbsR Z v ts) (hn : ts.length ≤ 1000000)
  (hp : ∀ i (hi : i < ts.length) a1 m1 c1 a2 m2 c2 a3 m3 c3, Cz M fv [.agg ⟨[.string ts[i].name, .slice a1 m1 c1, .slice a2 m2 c2, .slice a3 m3 c3]⟩] Z [] (fun v' Z' A' => Bis v' (p i) ∧ Z = Z' ∧ A' = [])) :
  Cz M (.func (.func 213) #[] #[]) [v, fv] Z [] (fun v' Z' A' => (∃ r : Int, v' = .int .i64 r ∧ (0 ≤ r ↔ ∃ i, i < ts.length ∧ p i)) ∧ Z = Z' ∧ A' = []) := by
 obtain ⟨us, hs, hrows⟩ := s
 refine Cz.fn (f := Tryz.f213) (by kernel_rfl) rfl rfl rfl _ rfl ?_
 (repeat first|refine go ?_|intro _)
 refine Wk.loop (fun mm L Z' A' => ∃ j : Nat, j ≤ ts.length ∧ mm = ts.length - j ∧ Z = Z' ∧ Sub A' [] ∧ (∀ i, i < j → ¬ p i) ∧ Kp L [(0, v), (1, fv), (6, v), (7, .int .i64 ts.length), (8, .int .i64 j)]) (ts.length) ⟨0, Nat.zero_le _, rfl, rfl, sub_, fun i h => by omega, kp_⟩ ?_
 rintro mm L Z' A' - ⟨j, hjj, rfl, rfl, hsub, invj, hk⟩
 refine Wk.drop hsub ?_
 refine Wk.kp hk ?_
 clear hk hsub
 (repeat first|refine go ?_|intro _)
 refine Wk.cond rfl (fun hc => ?_) (fun hc => ?_)
 ·have hlt : j < ts.length := by simp at hc; omega
  obtain ⟨nm, a1, m1, c1, a2, m2, c2, a3, m3, c3, g1, g2⟩ := hrows j hlt
  obtain rfl := g2.name
  (repeat first|refine go ?_|intro _)
  refine Wk.call rfl rfl (Spl.none _) (hp j hlt a1 m1 c1 a2 m2 c2 a3 m3 c3) rfl rfl rfl ?_
  rintro v' Z' A' hz ⟨⟨b, rfl, hb⟩, rfl, rfl⟩
  (repeat first|refine go ?_|intro _)
  refine Wk.cond rfl (fun hc => ?_) (fun hc => ?_)
  ·(repeat first|refine go ?_|intro _)
   refine Wk.ret ⟨_, Rs.tmp rfl Rs.nil, _, Sub.none _, ⟨_, rfl, by simp; exact ⟨j, hlt, hb.1 hc⟩⟩, rfl, rfl⟩
  ·(repeat first|refine go ?_|intro _)
   refine Wk.inv ⟨_, by omega, j + 1, by omega, rfl, rfl, sub_, (nextP invj (fun h => by rw [hb.2 h] at hc; cases hc)), kp_⟩
 ·(repeat first|refine go ?_|intro _)
  refine Wk.ret ⟨_, Rs.tmp rfl Rs.nil, _, Sub.none _, ⟨_, rfl, by simp; exact fun i h => invj i (by simp at hc; omega)⟩, rfl, rfl⟩
theorem containsTbl {Z : Zone} {v fv : Value} {ts : List Tbl} (p : Nat → Prop) (s : TbsR Z v ts) (hn : ts.length ≤ 1000000)
  (hp : ∀ i (hi : i < ts.length) a1 m1 c1 a2 m2 c2 a3 m3 c3, Cz M fv [.agg ⟨[.string ts[i].name, .slice a1 m1 c1, .slice a2 m2 c2, .slice a3 m3 c3]⟩] Z [] (fun v' Z' A' => Bis v' (p i) ∧ Z = Z' ∧ A' = [])) :
  Cz M (.func (.func 148) #[] #[]) [v, fv] Z [] (fun v' Z' A' => Bis v' (∃ i, i < ts.length ∧ p i) ∧ Z = Z' ∧ A' = []) := by
 refine Cz.fn (f := Tryz.f148) (by kernel_rfl) rfl rfl rfl _ rfl ?_
 (repeat first|refine go ?_|intro _)
 refine Wk.call rfl rfl (Spl.none _) (indexTbl p s hn hp) rfl rfl rfl ?_
 rintro v' Z' A' hz ⟨⟨r, rfl, hr⟩, rfl, rfl⟩
 (repeat first|refine go ?_|intro _)
 refine Wk.ret ⟨_, Rs.tmp rfl Rs.nil, _, Sub.none _, Bis.of (by rw [← hr]; simp), rfl, rfl⟩
theorem cs2 {Z : Zone} {b2 : Nat} {v : Value} {ts : List Tbl} (s : TbsR Z v ts) (hn : ts.length ≤ 1000000) (h2 : Z b2 = some (.cells [v] true 0)) (i : Nat) (hi : i < ts.length) {nm : ByteArray} {a1 a2 a3 : Option Addr} {m1 c1 m2 c2 m3 c3 : Nat} :
  Cz M (.func (.func 147) #[] ⟨[.pointer (some ⟨b2, 0, none⟩)]⟩) [.int .i64 i, .agg ⟨[.string nm, .slice a1 m1 c1, .slice a2 m2 c2, .slice a3 m3 c3]⟩] Z [] (fun v' Z' A' => Bis v' (∀ j (hj : j < i), ts[j].name ≠ nm) ∧ Z = Z' ∧ A' = []) := by
 refine Cz.shrink ?_
 obtain ⟨a, c, rfl⟩ := s.form
 obtain ⟨us, hs, hr⟩ := s
 refine Cz.fn (f := Tryz.f147) (by kernel_rfl) rfl rfl rfl _ rfl ?_
 (repeat first|refine go ?_|intro _)
 refine Wk.sliceSl (l := 0) (h := i) hs rfl rfl rfl rfl rfl rfl rfl rfl rfl rfl rfl ⟨rfl, by simp, by omega, by omega, trivial⟩ fun v8 s8 => ?_
 have t8 := TbsR.take (by omega) hr s8
 (repeat first|refine go ?_|intro _)
 first | refine Wk.freezer Rem.head fun Z1 e1 h4 => ?_ | refine Wk.freeze Rem.head fun Z1 e1 h4 => ?_
 refine Wk.call rfl rfl (Spl.none _) (containsTbl (fun j => ∃ hj : j < (ts.take i).length, (ts.take i)[j].name = nm) (t8.mono e1) (by rw [List.length_take]; omega) (fun j hj a1 m1 c1 a2 m2 c2 a3 m3 c3 => (cs21 h4).mono fun v' Z' A' _ q => ⟨q.1.imp ⟨fun h => ⟨hj, h⟩, fun ⟨_, h⟩ => h⟩, q.2⟩)) rfl rfl rfl ?_
 rintro v' Z' A' hz ⟨⟨b, rfl, hb⟩, rfl, rfl⟩
 (repeat first|refine go ?_|intro _)
 refine Wk.ret ⟨_, Rs.tmp rfl Rs.nil, _, Sub.none _, Bis.of ?_, rfl⟩
 constructor
 ·intro h j hj e
  have : b = true := hb.2 ⟨j, by rw [List.length_take]; omega, by rw [List.length_take]; omega, by rw [List.getElem_take]; exact e⟩
  rw [this] at h; cases h
 ·intro h
  cases b with
  | false => rfl
  | true =>
   obtain ⟨j, hj, hj', e⟩ := hb.1 rfl
   rw [List.getElem_take] at e
   rw [List.length_take] at hj
   exact absurd e (h j (by omega))
theorem cs4 {Z : Zone} {b2 : Nat} {v : Value} {ts : List Tbl} (s : TbsR Z v ts) (hn : ts.length ≤ 1000000) (h2 : Z b2 = some (.cells [v] true 0)) :
  Tells Z (.func (.func 152) #[] ⟨[.pointer (some ⟨b2, 0, none⟩)]⟩) (fun x => ∃ t ∈ ts, t.name = x) := by
 intro Z1 e1 x hx
 refine Cz.shrink ?_
 obtain ⟨a, c, rfl⟩ := s.form
 have h2' := e1 _ _ h2
 refine Cz.fn (f := Tryz.f152) (by kernel_rfl) rfl rfl rfl _ rfl ?_
 (repeat first|refine go ?_|intro _)
 first | refine Wk.freezer Rem.head fun Z2 e2 h4 => ?_ | refine Wk.freeze Rem.head fun Z2 e2 h4 => ?_
 refine Wk.call rfl rfl (Spl.none _) (containsTbl (fun j => ∃ hj : j < ts.length, ts[j].name = x) (s.mono (e1.trans e2)) hn (fun j hj a1 m1 c1 a2 m2 c2 a3 m3 c3 => (cs41 h4).mono fun v' Z' A' _ q => ⟨q.1.imp ⟨fun h => ⟨hj, h⟩, fun ⟨_, h⟩ => h⟩, q.2⟩)) rfl rfl rfl ?_
 rintro v' Z' A' hz ⟨hb, rfl, rfl⟩
 (repeat first|refine go ?_|intro _)
 refine Wk.ret ⟨_, Rs.tmp rfl Rs.nil, _, Sub.none _, hb.imp ?_, rfl⟩
 constructor
 ·rintro ⟨i, hi, _, e⟩; exact ⟨_, List.getElem_mem hi, e⟩
 ·rintro ⟨t, ht, e⟩
  obtain ⟨i, hi, rfl⟩ := List.getElem_of_mem ht
  exact ⟨i, hi, hi, e⟩
theorem CheckShapeI {Z : Zone} {v : Value} {ts : List Tbl} {s : Shp} {cs : List Value} {d : Nat} (ht : TbsR Z v ts) (hn : ts.length ≤ 1000000) (hsm : ∀ t ∈ ts, t.Sm) (hs : ShR Z s cs) (hd : s.levels ≤ d) (hd1 : d ≤ 1000000) (hss : Shp.Sm d s) :
  Cz M (.func (.func 99) #[] #[]) [v, .agg ⟨cs⟩] Z [] (fun v' Z' A' => v' = .int .i64 (CSE ts s) ∧ Z = Z' ∧ A' = []) := by
 refine Cz.shrink ?_
 obtain ⟨av, cv, rfl⟩ := ht.form
 obtain ⟨ak, ck, usk, rfl, _, _⟩ := hs.form
 refine Cz.fn (f := Tryz.f99) (by kernel_rfl) rfl rfl rfl _ rfl ?_
 (repeat first|refine go ?_|intro _)
 first | refine Wk.freezer Rem.head fun Z1 e1 h3 => ?_ | refine Wk.freeze Rem.head fun Z1 e1 h3 => ?_
 first | refine Wk.freezer Rem.head fun Z2 e2 h2 => ?_ | refine Wk.freeze Rem.head fun Z2 e2 h2 => ?_
 have e := e1.trans e2
 have ht2 := ht.mono e
 have hs2 := hs.mono e
 have h3' := e2 _ _ h3
 obtain ⟨us, tcs, hsl, hrow⟩ := ht2.rws
 refine Wk.caser 15 rfl (fun hc => ?_) (fun hc => ?_)
 ·(repeat first|refine go ?_|intro _)
  refine Wk.ret ⟨_, Rs.tmp rfl Rs.nil, _, Sub.none _, ?_, rfl⟩
  unfold CSE
  rw [if_pos (.inl (by simp at hc; omega))]; rfl
 have o1 : ¬ 8 < ts.length := by simp at hc; omega
 (repeat first|refine go ?_|intro _)
 refine Wk.call rfl rfl (Spl.none _) (levels_ d hd hd1 hss hs2) rfl rfl rfl ?_
 rintro v' Z' A' hz ⟨rfl, rfl, rfl⟩
 (repeat first|refine go ?_|intro _)
 refine Wk.cond rfl (fun hc => ?_) (fun hc => ?_)
 ·(repeat first|refine go ?_|intro _)
  refine Wk.ret ⟨_, Rs.tmp rfl Rs.nil, _, Sub.none _, ?_, rfl⟩
  unfold CSE
  rw [if_pos (.inr (by simp at hc; omega))]; rfl
 have o2 : ¬ (8 < ts.length ∨ 4 < s.levels) := by simp at hc; omega
 (repeat first|refine go ?_|intro _)
 refine Wk.call rfl rfl (Spl.none _) (allTbl (cs := tcs) (fun i => ∃ h : i < ts.length, ts[i].Ok) hsl (fun i hi => ⟨(hrow i hi).1, (hrow i hi).2.1⟩) hn (fun i hi => by
  obtain ⟨a1, m1, c1, a2, m2, c2, a3, m3, c3, ec, hR⟩ := (hrow i hi).2.2
  rw [ec]
  exact (cs1 i hR (hsm _ (List.getElem_mem hi)) rfl).mono fun v' Z' A' _ q => ⟨q.1.imp ⟨fun h => ⟨hi, h⟩, fun ⟨_, h⟩ => h⟩, q.2⟩)) rfl rfl rfl ?_
 rintro v' Z' A' hz ⟨⟨b, rfl, hb⟩, rfl, rfl⟩
 have hb' : b = true ↔ ∀ t ∈ ts, t.Ok := by
  rw [hb]
  constructor
  ·intro h t ht; obtain ⟨i, hi, rfl⟩ := List.getElem_of_mem ht; exact (h i hi).2
  ·intro h i hi; exact ⟨hi, h _ (List.getElem_mem hi)⟩
 (repeat first|refine go ?_|intro _)
 refine Wk.caser 25 rfl (fun hc => ?_) (fun hc => ?_)
 ·(repeat first|refine go ?_|intro _)
  refine Wk.ret ⟨_, Rs.tmp rfl Rs.nil, _, Sub.none _, ?_, rfl⟩
  unfold CSE
  rw [if_neg o2, if_pos (fun h => by rw [hb'.2 h.1] at hc; cases hc)]; rfl
 have o3 := hb'.1 (by simpa using hc)
 (repeat first|refine go ?_|intro _)
 refine Wk.call rfl rfl (Spl.none _) (isShape_ d hd hd1 hss hs2) rfl rfl rfl ?_
 rintro v' Z' A' hz ⟨⟨b2, rfl, hb2⟩, rfl, rfl⟩
 (repeat first|refine go ?_|intro _)
 refine Wk.cond rfl (fun hc => ?_) (fun hc => ?_)
 ·(repeat first|refine go ?_|intro _)
  refine Wk.ret ⟨_, Rs.tmp rfl Rs.nil, _, Sub.none _, ?_, rfl⟩
  unfold CSE
  rw [if_neg o2, if_pos (fun h => by rw [hb2.2 h.2] at hc; cases hc)]; rfl
 have o4 := hb2.1 (by simpa using hc)
 have o34 : ¬ ¬ ((∀ t ∈ ts, t.Ok) ∧ s.Ok) := fun h => h ⟨o3, o4⟩
 (repeat first|refine go ?_|intro _)
 refine Wk.call rfl rfl (Spl.none _) (allTbl (cs := tcs) (fun i => ∃ h : i < ts.length, ∀ j (hj : j < i), ts[j].name ≠ ts[i].name) hsl (fun i hi => ⟨(hrow i hi).1, (hrow i hi).2.1⟩) hn (fun i hi => by
  obtain ⟨a1, m1, c1, a2, m2, c2, a3, m3, c3, ec, hR⟩ := (hrow i hi).2.2
  rw [ec]
  exact (cs2 ht2 hn h2 i hi).mono fun v' Z' A' _ q => ⟨q.1.imp ⟨fun h => ⟨hi, h⟩, fun ⟨_, h⟩ => h⟩, q.2⟩)) rfl rfl rfl ?_
 rintro v' Z' A' hz ⟨⟨b3, rfl, hb3⟩, rfl, rfl⟩
 have hb3' : b3 = true ↔ ∀ i j (h : i < ts.length) (hj : j < i), ts[j].name ≠ ts[i].name := by
  rw [hb3]
  exact ⟨fun h i j hi hj => (h i hi).2 j hj, fun h i hi => ⟨hi, fun j hj => h i j hi hj⟩⟩
 (repeat first|refine go ?_|intro _)
 refine Wk.cond rfl (fun hc => ?_) (fun hc => ?_)
 ·(repeat first|refine go ?_|intro _)
  refine Wk.ret ⟨_, Rs.tmp rfl Rs.nil, _, Sub.none _, ?_, rfl⟩
  unfold CSE
  rw [if_neg o2, if_neg o34, if_pos (fun h => by rw [hb3'.2 h] at hc; cases hc)]; rfl
 have o5 := hb3'.1 (by simpa using hc)
 have o5' : ¬ ¬ (∀ i j (h : i < ts.length) (hj : j < i), ts[j].name ≠ ts[i].name) := fun h => h o5
 (repeat first|refine go ?_|intro _)
 refine Wk.call rfl rfl (Spl.none _) (allTbl (cs := tcs) (fun i => ∃ h : i < ts.length, ts[i].Ok ∧ ts[i].Lat) hsl (fun i hi => ⟨(hrow i hi).1, (hrow i hi).2.1⟩) hn (fun i hi => by
  obtain ⟨a1, m1, c1, a2, m2, c2, a3, m3, c3, ec, hR⟩ := (hrow i hi).2.2
  rw [ec]
  exact (cs3 i hR (hsm _ (List.getElem_mem hi)) rfl).mono fun v' Z' A' _ q => ⟨q.1.imp ⟨fun h => ⟨hi, h⟩, fun ⟨_, h⟩ => h⟩, q.2⟩)) rfl rfl rfl ?_
 rintro v' Z' A' hz ⟨⟨b4, rfl, hb4⟩, rfl, rfl⟩
 have hb4' : b4 = true ↔ ∀ t ∈ ts, t.Lat := by
  rw [hb4]
  constructor
  ·intro h t ht; obtain ⟨i, hi, rfl⟩ := List.getElem_of_mem ht; exact (h i hi).2.2
  ·intro h i hi; exact ⟨hi, o3 _ (List.getElem_mem hi), h _ (List.getElem_mem hi)⟩
 (repeat first|refine go ?_|intro _)
 refine Wk.cond rfl (fun hc => ?_) (fun hc => ?_)
 ·(repeat first|refine go ?_|intro _)
  refine Wk.ret ⟨_, Rs.tmp rfl Rs.nil, _, Sub.none _, ?_, rfl⟩
  unfold CSE
  rw [if_neg o2, if_neg o34, if_neg o5', if_pos (fun h => by rw [hb4'.2 h] at hc; cases hc)]; rfl
 have o6 := hb4'.1 (by simpa using hc)
 have o6' : ¬ ¬ (∀ t ∈ ts, t.Lat) := fun h => h o6
 (repeat first|refine go ?_|intro _)
 refine Wk.call rfl rfl (Spl.none _) (names_ d hd hd1 hss hs2 rfl (cs4 ht2 hn h2)) rfl rfl rfl ?_
 rintro v' Z' A' hz ⟨⟨b5, rfl, hb5⟩, rfl, rfl⟩
 rw [← Shp.named_all] at hb5
 (repeat first|refine go ?_|intro _)
 refine Wk.cond rfl (fun hc => ?_) (fun hc => ?_)
 ·(repeat first|refine go ?_|intro _)
  refine Wk.ret ⟨_, Rs.tmp rfl Rs.nil, _, Sub.none _, ?_, rfl⟩
  unfold CSE
  rw [if_neg o2, if_neg o34, if_neg o5', if_neg o6', if_pos (fun h => by rw [hb5.2 h] at hc; cases hc)]; rfl
 have o7 : ¬ ¬ s.Named ts := fun h => h (hb5.1 (by simpa using hc))
 (repeat first|refine go ?_|intro _)
 refine Wk.ret ⟨_, Rs.tmp rfl Rs.nil, _, Sub.none _, ?_, rfl⟩
 unfold CSE
 rw [if_neg o2, if_neg o34, if_neg o5', if_neg o6', if_neg o7]; rfl
end Go.Proofs.J
