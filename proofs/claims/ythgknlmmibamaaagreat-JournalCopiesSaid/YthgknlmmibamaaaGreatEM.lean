/- EM -/
import Derived.Test.YthgknlmmibamaaaGreatEvF
import Derived.Test.YthgknlmmibamaaaGreatRows
import Derived.Test.YthgknlmmibamaaaGreatJTab
import Derived.Test.YthgknlmmibamaaaGreatJA
import Derived.Test.YthgknlmmibamaaaGreatOK
import Derived.Test.YthgknlmmibamaaaGreatOA
import Derived.Test.YthgknlmmibamaaaGreatEA
namespace Go.Proofs.J
attribute [local irreducible] Go.Ev.Wk
open Go.Ev Go
set_option linter.unusedVariables false
set_option maxHeartbeats 4000000
theorem drop1 {vs : List Value} {i : Nat} {x : Value} (h : (vs.drop (i * 1)).take 1 = [x]) : vs[i]? = some x := by
 rw [Nat.mul_one] at h
 have := congrArg (fun l => l[0]?) h
 simpa [List.getElem?_take, List.getElem?_drop] using this
theorem list_of {α : Type} {R : Value → α → Prop} : ∀ (vs : List Value), (∀ i, i < vs.length → ∃ x a, vs[i]? = some x ∧ R x a) → ∃ l : List α, All2 R vs l
 | [], _ => ⟨[], .nil⟩
 | v :: vs, h => by
  obtain ⟨x, a, h1, h2⟩ := h 0 (by simp)
  obtain ⟨l, hl⟩ := list_of vs fun i hi => by have := h (i + 1) (by simp; omega); simpa using this
  simp at h1
  exact ⟨a :: l, .cons (h1 ▸ h2) hl⟩
theorem len2 {l : List Value} (h : l.length = 2) : ∃ a b, l = [a, b] := by
 match l, h with
 | [a, b], _ => exact ⟨a, b, rfl⟩
theorem c5 : Tryz.prog.cellsOf 5 = 1 := by kernel_rfl
theorem c3 : Tryz.prog.cellsOf 3 = 1 := by kernel_rfl
theorem c73 : Tryz.prog.cellsOf 64 = 1 := by kernel_rfl
theorem c52 : Tryz.prog.cellsOf 46 = 1 := by kernel_rfl
theorem ints_of {k : IntKind} {vs : List Value} {l : List Int} (h : All2 (fun x a => x = Value.int k a) vs l) : vs = l.map (Value.int k) := by
 induction h with
 | nil => rfl
 | cons h _ ih => rw [h, ih]; rfl
theorem wt_bytes {Z : Zone} {d : Nat} {cs : List Value} (h : Wt Tryz.prog Z d 64 cs) : ∃ v xs, cs = [v] ∧ Sl Z 1 v xs.length (by8 xs) := by
 cases d with
 | zero => exact h.elim
 | succ d =>
  simp only [Wt, Tryz.underlying64, c5] at h
  obtain ⟨v, m, vs, rfl, hs, _, hw⟩ := h
  have hl := hs.length
  obtain ⟨l, hl2⟩ := list_of (R := fun x a => x = Value.int .u8 a) vs fun i hi => by
   have := hw i (by omega)
   cases d with
   | zero => exact this.elim
   | succ d =>
    simp only [Wt, Tryz.underlying5] at this
    obtain ⟨n, e, _⟩ := this
    exact ⟨_, n, drop1 e, rfl⟩
  have e := ints_of hl2
  subst e
  refine ⟨v, l, rfl, ?_⟩
  have : m = l.length := by simp at hl; omega
  subst this
  exact hs
theorem wt_ints {Z : Zone} {d : Nat} {cs : List Value} (h : Wt Tryz.prog Z d 46 cs) : ∃ v xs, cs = [v] ∧ Sl Z 1 v xs.length (i64s xs) := by
 cases d with
 | zero => exact h.elim
 | succ d =>
  simp only [Wt, Tryz.underlying46, c3] at h
  obtain ⟨v, m, vs, rfl, hs, _, hw⟩ := h
  have hl := hs.length
  obtain ⟨l, hl2⟩ := list_of (R := fun x a => x = Value.int .i64 a) vs fun i hi => by
   have := hw i (by omega)
   cases d with
   | zero => exact this.elim
   | succ d =>
    simp only [Wt, Tryz.underlying3] at this
    obtain ⟨n, e, _⟩ := this
    exact ⟨_, n, drop1 e, rfl⟩
  have e := ints_of hl2
  subst e
  refine ⟨v, l, rfl, ?_⟩
  have : m = l.length := by simp at hl; omega
  subst this
  exact hs
open Go Go.Ev
theorem k22 : Tryz.prog.cellsOf 22 = 1 := by kernel_rfl
theorem k58 : Tryz.prog.cellsOf 53 = 1 := by kernel_rfl
theorem k61 : Tryz.prog.cellsOf 56 = 3 := by kernel_rfl
theorem k63 : Tryz.prog.cellsOf 58 = 4 := by kernel_rfl
theorem k59 : Tryz.prog.cellsOf 54 = 1 := by kernel_rfl
theorem k134 : Tryz.prog.cellsOf 119 = 1 := by kernel_rfl
theorem k135 : Tryz.prog.cellsOf 120 = 1 := by kernel_rfl
theorem k136 : Tryz.prog.cellsOf 121 = 1 := by kernel_rfl
theorem k138 : Tryz.prog.cellsOf 123 = 4 := by kernel_rfl
theorem k9 : Tryz.prog.cellsOf 9 = 1 := by kernel_rfl
theorem k4 : Tryz.prog.cellsOf 4 = 1 := by kernel_rfl
theorem rows_of {α : Type} {sz m : Nat} {R : List Value → α → Prop} {vs : List Value} (hl : vs.length = m * sz) (h : ∀ i, i < m → ∃ x, R ((vs.drop (i * sz)).take sz) x) : ∃ l : List α, l.length = m ∧ RowsL sz R vs l := by
 have key : ∀ k, k ≤ m → ∃ l : List α, l.length = k ∧ RowsL sz R (vs.take (k * sz)) l := by
  intro k
  induction k with
  | zero => exact fun _ => ⟨[], rfl, by simpa using RowsL.nil⟩
  | succ k ih =>
   intro hk
   obtain ⟨l, h1, h2⟩ := ih (by omega)
   obtain ⟨x, hx⟩ := h k (by omega)
   refine ⟨l ++ [x], by simp [h1], ?_⟩
   rw [Nat.add_mul, Nat.one_mul, List.take_add]
   have hle : (k + 1) * sz ≤ m * sz := Nat.mul_le_mul_right _ hk
   rw [Nat.add_mul, Nat.one_mul] at hle
   exact h2.snoc (by rw [List.length_take, List.length_drop]; omega) hx
 obtain ⟨l, h1, h2⟩ := key m (Nat.le_refl _)
 refine ⟨l, h1, ?_⟩
 rw [← hl, List.take_length] at h2
 exact h2
theorem shrl_of {Z : Zone} {m : Nat} {vs : List Value} (hl : vs.length = m * 3) (h : ∀ i, i < m → ∃ s, ShR Z s ((vs.drop (i * 3)).take 3)) : ∃ l : List Shp, l.length = m ∧ ShRL Z l vs := by
 have key : ∀ k, k ≤ m → ∃ l : List Shp, l.length = k ∧ ShRL Z l (vs.take (k * 3)) := by
  intro k
  induction k with
  | zero => exact fun _ => ⟨[], rfl, by simp [ShRL]⟩
  | succ k ih =>
   intro hk
   obtain ⟨l, h1, h2⟩ := ih (by omega)
   obtain ⟨x, hx⟩ := h k (by omega)
   refine ⟨l ++ [x], by simp [h1], ?_⟩
   rw [Nat.add_mul, Nat.one_mul, List.take_add]
   exact ShRL.snoc hx h2
 obtain ⟨l, h1, h2⟩ := key m (Nat.le_refl _)
 refine ⟨l, h1, ?_⟩
 rw [← hl, List.take_length] at h2
 exact h2
theorem len3 {l : List Value} (h : l.length = 3) : ∃ a b c, l = [a, b, c] := by
 match l, h with
 | [a, b, c], _ => exact ⟨a, b, c, rfl⟩
theorem len4 {l : List Value} (h : l.length = 4) : ∃ a b c d, l = [a, b, c, d] := by
 match l, h with
 | [a, b, c, d], _ => exact ⟨a, b, c, d, rfl⟩
theorem wt_u8 {Z : Zone} {d : Nat} {v : Value} (h : Wt Tryz.prog Z d 5 [v]) : ∃ n, v = .int .u8 n := by
 cases d with
 | zero => exact h.elim
 | succ d =>
  simp only [Wt, Tryz.underlying5] at h
  obtain ⟨n, e, _⟩ := h
  cases e; exact ⟨_, rfl⟩
theorem wt_str {Z : Zone} {d : Nat} {cs : List Value} (h : Wt Tryz.prog Z d 9 cs) : ∃ n, cs = [.string n] := by
 cases d with
 | zero => exact h.elim
 | succ d =>
  simp only [Wt, Tryz.underlying9] at h
  obtain ⟨n, e, _⟩ := h
  exact ⟨_, e⟩
theorem wt_bool {Z : Zone} {d : Nat} {cs : List Value} (h : Wt Tryz.prog Z d 4 cs) : ∃ n, cs = [.bool n] := by
 cases d with
 | zero => exact h.elim
 | succ d =>
  simp only [Wt, Tryz.underlying4] at h
  obtain ⟨n, e⟩ := h
  exact ⟨_, e⟩
theorem wt_shape {Z : Zone} : ∀ (d : Nat) {cs : List Value}, Wt Tryz.prog Z d 56 cs → ∃ s, ShR Z s cs := by
 intro d
 induction d using Nat.strongRecOn with
 | _ d ih =>
 intro cs h
 cases d with
 | zero => exact h.elim
 | succ d =>
  simp only [Wt, Tryz.underlying56, k61] at h
  obtain ⟨hlen, hf⟩ := h
  obtain ⟨a, b, c, rfl⟩ := len3 hlen
  have f0 := hf _ (List.Mem.head _)
  have f1 := hf _ (List.Mem.tail _ (List.Mem.head _))
  have f2 := hf _ (List.Mem.tail _ (List.Mem.tail _ (List.Mem.head _)))
  simp only [c5, k9, k59, List.drop_zero, List.drop_succ_cons, List.take_succ_cons, List.take_zero] at f0 f1 f2
  obtain ⟨k, rfl⟩ := wt_u8 f0
  obtain ⟨n, e⟩ := wt_str f1
  cases e
  cases d with
  | zero => exact f2.elim
  | succ d =>
   simp only [Wt, Tryz.underlying54, k61] at f2
   obtain ⟨v, m, vs, e, hs, _, hw⟩ := f2
   cases e
   obtain ⟨l, hl, hR⟩ := shrl_of hs.length fun i hi => ih d (by omega) (hw i hi)
   subst hl
   exact ⟨.mk k n l, by simp only [ShR]; exact ⟨_, _, rfl, hs, hR⟩⟩
theorem wt_strs {Z : Zone} {d : Nat} {cs : List Value} (h : Wt Tryz.prog Z d 119 cs) : ∃ (v : Value) (xs : List ByteArray), cs = [v] ∧ Sl Z 1 v xs.length (xs.map Value.string) := by
 cases d with
 | zero => exact h.elim
 | succ d =>
  simp only [Wt, Tryz.underlying119, k9] at h
  obtain ⟨v, m, vs, rfl, hs, _, hw⟩ := h
  have hl := hs.length
  obtain ⟨l, hl2⟩ := list_of (R := fun x a => x = Value.string a) vs fun i hi => by
   obtain ⟨n, e⟩ := wt_str (hw i (by omega))
   exact ⟨_, n, drop1 e, rfl⟩
  have e : vs = l.map Value.string := by
   clear hs hw hl
   induction hl2 with
   | nil => rfl
   | cons h _ ih => rw [h, ih]; rfl
  subst e
  refine ⟨v, l, rfl, ?_⟩
  have : m = l.length := by simp at hl; omega
  subst this
  exact hs
theorem wt_bools {Z : Zone} {d : Nat} {cs : List Value} (h : Wt Tryz.prog Z d 121 cs) : ∃ (v : Value) (xs : List Bool), cs = [v] ∧ Sl Z 1 v xs.length (xs.map Value.bool) := by
 cases d with
 | zero => exact h.elim
 | succ d =>
  simp only [Wt, Tryz.underlying121, k4] at h
  obtain ⟨v, m, vs, rfl, hs, _, hw⟩ := h
  have hl := hs.length
  obtain ⟨l, hl2⟩ := list_of (R := fun x a => x = Value.bool a) vs fun i hi => by
   obtain ⟨n, e⟩ := wt_bool (hw i (by omega))
   exact ⟨_, n, drop1 e, rfl⟩
  have e : vs = l.map Value.bool := by
   clear hs hw hl
   induction hl2 with
   | nil => rfl
   | cons h _ ih => rw [h, ih]; rfl
  subst e
  refine ⟨v, l, rfl, ?_⟩
  have : m = l.length := by simp at hl; omega
  subst this
  exact hs
theorem wt_introws {Z : Zone} {d : Nat} {cs : List Value} (h : Wt Tryz.prog Z d 120 cs) : ∃ v xss, cs = [v] ∧ Rows Z v xss := by
 cases d with
 | zero => exact h.elim
 | succ d =>
  simp only [Wt, Tryz.underlying120, c52] at h
  obtain ⟨v, m, vs, rfl, hs, _, hw⟩ := h
  have hl := hs.length
  obtain ⟨l, hl2⟩ := list_of (R := fun u (xs : List Int) => Sl Z 1 u xs.length (xs.map (Value.int .i64))) vs fun i hi => by
   obtain ⟨u, xs, e, hu⟩ := wt_ints (hw i (by omega))
   exact ⟨u, xs, drop1 e, hu⟩
  have : m = l.length := by rw [← hl2.length]; omega
  subst this
  exact ⟨v, l, rfl, vs, hs, fun i hi => hl2.getElem hi⟩
theorem wt_table {Z : Zone} {d : Nat} {cs : List Value} (h : Wt Tryz.prog Z d 123 cs) : ∃ t, TbC Z cs t := by
 cases d with
 | zero => exact h.elim
 | succ d =>
  simp only [Wt, Tryz.underlying123, k138] at h
  obtain ⟨hlen, hf⟩ := h
  obtain ⟨a, b, c, e, rfl⟩ := len4 hlen
  have f0 := hf _ (List.Mem.head _)
  have f1 := hf _ (List.Mem.tail _ (List.Mem.head _))
  have f2 := hf _ (List.Mem.tail _ (List.Mem.tail _ (List.Mem.head _)))
  have f3 := hf _ (List.Mem.tail _ (List.Mem.tail _ (List.Mem.tail _ (List.Mem.head _))))
  simp only [k134, k9, k135, k136, List.drop_zero, List.drop_succ_cons, List.take_succ_cons, List.take_zero] at f0 f1 f2 f3
  obtain ⟨n, e0⟩ := wt_str f0
  obtain ⟨v1, xs, e1, h1⟩ := wt_strs f1
  obtain ⟨v2, ys, e2, h2⟩ := wt_introws f2
  obtain ⟨v3, zs, e3, h3⟩ := wt_bools f3
  cases e0; cases e1; cases e2; cases e3
  obtain ⟨a1, c1, rfl⟩ := h1.form
  obtain ⟨a3, c3, rfl⟩ := h3.form
  obtain ⟨us, hs, hr⟩ := h2
  obtain ⟨a2, c2, rfl⟩ := hs.form
  exact ⟨⟨n, xs, ys, zs⟩, _, _, _, _, _, _, _, _, _, _, rfl, rfl, h1, ⟨us, hs, hr⟩, h3⟩
theorem wt_lattice {Z : Zone} {d : Nat} {cs : List Value} (h : Wt Tryz.prog Z d 58 cs) : ∃ l, LatR Z cs l := by
 cases d with
 | zero => exact h.elim
 | succ d =>
  simp only [Wt, Tryz.underlying58, k63] at h
  obtain ⟨hlen, hf⟩ := h
  obtain ⟨a, b, c, e, rfl⟩ := len4 hlen
  have f0 := hf _ (List.Mem.head _)
  have f1 := hf _ (List.Mem.tail _ (List.Mem.head _))
  simp only [k58, k61, List.drop_zero, List.drop_succ_cons, List.take_succ_cons, List.take_zero] at f0 f1
  obtain ⟨s, hs⟩ := wt_shape _ f1
  cases d with
  | zero => exact f0.elim
  | succ d =>
   simp only [Wt, Tryz.underlying53, k138] at f0
   obtain ⟨v, m, vs, e, hsl, _, hw⟩ := f0
   cases e
   obtain ⟨l, hl, hR⟩ := rows_of hsl.length fun i hi => wt_table (hw i hi)
   subst hl
   exact ⟨(l, s), _, _, rfl, TbsR.of hsl hR, hs⟩
theorem wt_lats {Z : Zone} {d : Nat} {cs : List Value} (h : Wt Tryz.prog Z d 22 cs) : ∃ v ls, cs = [v] ∧ LatsR Z v ls := by
 cases d with
 | zero => exact h.elim
 | succ d =>
  simp only [Wt, Tryz.underlying22, k63] at h
  obtain ⟨v, m, vs, rfl, hsl, _, hw⟩ := h
  obtain ⟨l, hl, hR⟩ := rows_of hsl.length fun i hi => wt_lattice (hw i hi)
  subst hl
  exact ⟨v, l, rfl, LatsR.of hsl hR⟩
theorem c25 : Tryz.prog.cellsOf 23 = 1 := by kernel_rfl
theorem c26 : Tryz.prog.cellsOf 24 = 1 := by kernel_rfl
theorem c106 : Tryz.prog.cellsOf 96 = 2 := by kernel_rfl
theorem c28 : Tryz.prog.cellsOf 26 = 2 := by kernel_rfl
theorem wt_rows {Z : Zone} {d : Nat} {cs : List Value} (h : Wt Tryz.prog Z d 23 cs) : ∃ v xss, cs = [v] ∧ Bys Z v xss := by
 cases d with
 | zero => exact h.elim
 | succ d =>
  simp only [Wt, Tryz.underlying23, c73] at h
  obtain ⟨v, m, vs, rfl, hs, _, hw⟩ := h
  have hl := hs.length
  obtain ⟨l, hl2⟩ := list_of (R := fun u xs => Sl Z 1 u xs.length (by8 xs)) vs fun i hi => by
   obtain ⟨u, xs, e, hu⟩ := wt_bytes (hw i (by omega))
   exact ⟨u, xs, drop1 e, hu⟩
  refine ⟨v, l, rfl, vs, ?_, hl2⟩
  have : m = l.length := by rw [← hl2.length]; omega
  subst this
  exact hs
theorem wt_writes {Z : Zone} {d : Nat} {cs : List Value} (h : Wt Tryz.prog Z d 24 cs) : ∃ v ws, cs = [v] ∧ Wrs Z v ws := by
 cases d with
 | zero => exact h.elim
 | succ d =>
  simp only [Wt, Tryz.underlying24, c106] at h
  obtain ⟨v, m, vs, rfl, hs, _, hw⟩ := h
  have hl := hs.length
  have key : ∀ i, i < m → ∃ (w : Int × List Int) (u : Value), getCells vs (i * 2) 2 = some [.int .i64 w.1, u] ∧ Sl Z 1 u w.2.length (by8 w.2) := by
   intro i hi
   have := hw i hi
   cases d with
   | zero => exact this.elim
   | succ d =>
    simp only [Wt, Tryz.underlying96, c106] at this
    obtain ⟨hlen, hf⟩ := this
    have f0 := hf _ (List.Mem.head _)
    have f1 := hf _ (List.Mem.tail _ (List.Mem.head _))
    simp only [c3, c73, List.drop_zero] at f0 f1
    obtain ⟨u, xs, e1, hu⟩ := wt_bytes f1
    cases d with
    | zero => exact f0.elim
    | succ d =>
     simp only [Wt, Tryz.underlying3] at f0
     obtain ⟨n, e0, _⟩ := f0
     refine ⟨(n, xs), u, ?_, hu⟩
     generalize hX : (vs.drop (i * 2)).take 2 = X at *
     have hX2 : getCells vs (i * 2) 2 = some X := by
      unfold getCells
      have : (i + 1) * 2 ≤ m * 2 := Nat.mul_le_mul_right _ hi
      rw [if_pos (by omega), hX]
     rw [hX2]
     obtain ⟨a, b, rfl⟩ := len2 hlen
     simp at e0 e1
     rw [e0, e1]
  have build : ∀ k, k ≤ m → ∃ ws : List (Int × List Int), ws.length = k ∧ ∀ i (h : i < ws.length), ∃ u, getCells vs (i * 2) 2 = some [.int .i64 ws[i].1, u] ∧ Sl Z 1 u ws[i].2.length (by8 ws[i].2) := by
   intro k
   induction k with
   | zero => exact fun _ => ⟨[], rfl, fun i h => by cases h⟩
   | succ k ih =>
    intro hk
    obtain ⟨ws, h1, h2⟩ := ih (by omega)
    obtain ⟨w, u, k1, k2⟩ := key k (by omega)
    refine ⟨ws ++ [w], by simp [h1], fun i hi => ?_⟩
    by_cases e : i < ws.length
    ·obtain ⟨u', q1, q2⟩ := h2 i e
     exact ⟨u', by rw [List.getElem_append_left e]; exact q1, by rw [List.getElem_append_left e]; exact q2⟩
    ·have e' : i = ws.length := by simp at hi; omega
     subst e'
     refine ⟨u, ?_, ?_⟩
     ·simp only [List.getElem_append_right (Nat.le_refl _), Nat.sub_self, List.getElem_cons_zero]; rw [h1]; exact k1
     ·simp only [List.getElem_append_right (Nat.le_refl _), Nat.sub_self, List.getElem_cons_zero]; exact k2
  obtain ⟨ws, h1, h2⟩ := build m (Nat.le_refl _)
  subst h1
  exact ⟨v, ws, rfl, vs, hs, h2⟩
theorem wt_disk {Z : Zone} {d : Nat} {v : Value} (h : Wt Tryz.prog Z d 26 (cellsL v)) (ha : ∃ cs, v = .agg cs) : ∃ d : Dsk, Dk Z v d := by
 obtain ⟨⟨cs⟩, rfl⟩ := ha
 cases d with
 | zero => exact h.elim
 | succ d =>
  simp only [Wt, Tryz.underlying26, c28] at h
  obtain ⟨hlen, hf⟩ := h
  have f0 := hf _ (List.Mem.head _)
  have f1 := hf _ (List.Mem.tail _ (List.Mem.head _))
  simp only [c25, c26, List.drop_zero] at f0 f1
  obtain ⟨u, xs, e0, hu⟩ := wt_rows f0
  obtain ⟨w, ws, e1, hw⟩ := wt_writes f1
  have hX : cellsL (.agg ⟨cs⟩) = cs := rfl
  rw [hX] at hlen e0 e1
  obtain ⟨a, b, rfl⟩ := len2 hlen
  simp at e0 e1
  subst e0 e1
  exact ⟨(xs, ws), _, _, rfl, hu, hw⟩
theorem kEl : Tryz.prog.cellsOf 48 = 4 := by kernel_rfl
theorem bEl : Tryz.prog.bytesOf 48 = 64 := by kernel_rfl
theorem bInt : Tryz.prog.bytesOf 3 = 8 := by kernel_rfl
theorem kEls : Tryz.prog.cellsOf 36 = 1 := by kernel_rfl
theorem kInts : Tryz.prog.cellsOf 46 = 1 := by kernel_rfl
theorem wf_i64 {n : Int} (h : (Lit.int .i64 n).wf = true) : -9223372036854775808 ≤ n ∧ n ≤ 9223372036854775807 := by
 simp [Lit.wf, IntKind.min, IntKind.max, IntKind.signed, IntKind.bits] at h
 exact h
theorem wf_u8 {n : Int} (h : (Lit.int .u8 n).wf = true) : 0 ≤ n ∧ n ≤ 255 := by
 simp [Lit.wf, IntKind.min, IntKind.max, IntKind.signed, IntKind.bits] at h
 exact h
structure El.In (d : Nat) (e : El) : Prop where
 lv : e.levels ≤ d
 sm : ∀ k, e.Sm k
theorem El.In.fit {d : Nat} {e : El} (h : e.In d) : e.Fit d := ⟨h.lv, h.sm d⟩
theorem El.In.le {d d' : Nat} {e : El} (h : e.In d) (k : d ≤ d') : e.In d' := ⟨Nat.le_trans h.lv k, h.sm⟩
theorem elrl_of {Z : Zone} {m d : Nat} {vs : List Value} (hl : vs.length = m * 4) (h : ∀ i, i < m → ∃ s, ElR Z s ((vs.drop (i * 4)).take 4) ∧ s.In d) : ∃ l : List El, l.length = m ∧ ElRL Z l vs ∧ ∀ s ∈ l, s.In d := by
 have key : ∀ k, k ≤ m → ∃ l : List El, l.length = k ∧ ElRL Z l (vs.take (k * 4)) ∧ ∀ s ∈ l, s.In d := by
  intro k
  induction k with
  | zero => exact fun _ => ⟨[], rfl, by simp [ElRL], by simp⟩
  | succ k ih =>
   intro hk
   obtain ⟨l, h1, h2, h3⟩ := ih (by omega)
   obtain ⟨x, hx, hi⟩ := h k (by omega)
   refine ⟨l ++ [x], by simp [h1], ?_, ?_⟩
   ·rw [Nat.add_mul, Nat.one_mul, List.take_add]
    exact ElRL.snoc hx h2
   ·intro s hs
    rcases List.mem_append.1 hs with q | q
    ·exact h3 s q
    ·rw [List.mem_singleton.1 q]; exact hi
 obtain ⟨l, h1, h2, h3⟩ := key m (Nat.le_refl _)
 refine ⟨l, h1, ?_, h3⟩
 rw [← hl, List.take_length] at h2
 exact h2
theorem wt_keys {Z : Zone} {d : Nat} {cs : List Value} (h : Wt Tryz.prog Z d 46 cs) : ∃ (v : Value) (xs : List Int), cs = [v] ∧ Sl Z 1 v xs.length (xs.map (Value.int .i64)) ∧ xs.length ≤ 17592186044416 ∧ ∀ k ∈ xs, -9223372036854775808 ≤ k ∧ k ≤ 9223372036854775807 := by
 cases d with
 | zero => exact h.elim
 | succ d =>
  simp only [Wt, Tryz.underlying46, c3] at h
  obtain ⟨v, m, vs, rfl, hs, hm, hw⟩ := h
  have hl := hs.length
  obtain ⟨l, hl2⟩ := list_of (R := fun x a => x = Value.int .i64 a ∧ (-9223372036854775808 ≤ a ∧ a ≤ 9223372036854775807)) vs fun i hi => by
   have := hw i (by omega)
   cases d with
   | zero => exact this.elim
   | succ d =>
    simp only [Wt, Tryz.underlying3] at this
    obtain ⟨n, e, k⟩ := this
    exact ⟨_, n, drop1 e, rfl, wf_i64 k⟩
  have e : vs = l.map (Value.int .i64) ∧ ∀ k ∈ l, -9223372036854775808 ≤ k ∧ k ≤ 9223372036854775807 := by
   clear hs hw hl
   induction hl2 with
   | nil => exact ⟨rfl, by simp⟩
   | cons h _ ih => exact ⟨by rw [h.1, ih.1]; rfl, fun k hk => by
    cases hk with
    | head => exact h.2
    | tail _ q => exact ih.2 k q⟩
  obtain ⟨rfl, hb⟩ := e
  have : m = l.length := by simp at hl; omega
  subst this
  refine ⟨v, l, rfl, hs, ?_, hb⟩
  have := hm.2
  rw [bInt] at this
  simp only [reachBytes] at this
  omega
theorem wt_elem {Z : Zone} : ∀ (d : Nat) {cs : List Value}, Wt Tryz.prog Z d 48 cs → ∃ e, ElR Z e cs ∧ e.In d := by
 intro d
 induction d using Nat.strongRecOn with
 | _ d ih =>
 intro cs h
 cases d with
 | zero => exact h.elim
 | succ d =>
  simp only [Wt, Tryz.underlying48, kEl] at h
  obtain ⟨hlen, hf⟩ := h
  obtain ⟨a, b, c, e, rfl⟩ := len4 hlen
  have f0 := hf _ (List.Mem.head _)
  have f1 := hf _ (List.Mem.tail _ (List.Mem.head _))
  have f2 := hf _ (List.Mem.tail _ (List.Mem.tail _ (List.Mem.head _)))
  have f3 := hf _ (List.Mem.tail _ (List.Mem.tail _ (List.Mem.tail _ (List.Mem.head _))))
  simp only [c5, c3, kInts, kEls, List.drop_zero, List.drop_succ_cons, List.take_succ_cons, List.take_zero] at f0 f1 f2 f3
  obtain ⟨v2, xs, e2, h2, hx1, hx2⟩ := wt_keys f2
  cases e2
  cases d with
  | zero => exact f3.elim
  | succ d =>
   simp only [Wt, Tryz.underlying5] at f0
   simp only [Wt, Tryz.underlying3] at f1
   simp only [Wt, Tryz.underlying36, kEl] at f3
   obtain ⟨k, e0, w0⟩ := f0
   obtain ⟨n, e1, w1⟩ := f1
   obtain ⟨v, m, vs, e3, hs, hm, hw⟩ := f3
   cases e0
   cases e1
   cases e3
   obtain ⟨l, hl, hR, hI⟩ := elrl_of hs.length fun i hi => ih d (by omega) (hw i hi)
   subst hl
   refine ⟨.mk k n xs l, by simp only [ElR]; exact ⟨_, _, _, rfl, h2, hs, hR⟩, ?_, ?_⟩
   ·have := (elLevelsL_le (l := l) (n := d)).2 fun s hs => (hI s hs).lv
    simp only [El.levels]
    omega
   ·intro q
    cases q with
    | zero => trivial
    | succ q =>
     refine ⟨hx1, ?_, wf_i64 w1, wf_u8 w0, hx2, fun s hs => (hI s hs).sm q⟩
     have := hm.2
     rw [bEl] at this
     simp only [reachBytes] at this
     show l.length ≤ _
     omega
theorem wt_elems {Z : Zone} {d : Nat} {cs : List Value} (h : Wt Tryz.prog Z d 36 cs) : ∃ v els, cs = [v] ∧ ElsR Z v els ∧ els.length ≤ 2199023255552 ∧ ∀ e ∈ els, e.In d := by
 cases d with
 | zero => exact h.elim
 | succ d =>
  simp only [Wt, Tryz.underlying36, kEl] at h
  obtain ⟨v, m, vs, rfl, hs, hm, hw⟩ := h
  obtain ⟨l, hl, hR, hI⟩ := elrl_of hs.length fun i hi => wt_elem d (hw i hi)
  subst hl
  refine ⟨v, l, rfl, ⟨_, hs, hR⟩, ?_, fun e he => (hI e he).le (by omega)⟩
  have := hm.2
  rw [bEl] at this
  simp only [reachBytes] at this
  omega
structure Jn where
 d : Dsk
 s : List El
 h : Int
 nx : Int
 nu : Int
 se : Int
 co : Int
 fr : Int
def JnR (Z : Zone) (cs : List Value) (j : Jn) : Prop := ∃ vb vp ve, cs = [vb, vp, ve, .int .i64 j.h, .int .i64 j.nx, .int .i64 j.nu, .int .i64 j.se, .int .i64 j.co, .int .i64 j.fr] ∧ Dk Z (.agg ⟨[vb, vp]⟩) j.d ∧ ElsR Z ve j.s
theorem JnR.mono {Z Z' : Zone} {cs : List Value} {j : Jn} (e : Ext Z Z') (h : JnR Z cs j) : JnR Z' cs j := let ⟨a, b, c, h1, h2, h3⟩ := h; ⟨a, b, c, h1, h2.mono e, h3.mono e⟩
theorem JnR.form {Z : Zone} {cs : List Value} {j : Jn} (h : JnR Z cs j) : ∃ a1 m1 c1 a2 m2 c2 a3 c3, cs = [.slice a1 m1 c1, .slice a2 m2 c2, .slice a3 j.s.length c3, .int .i64 j.h, .int .i64 j.nx, .int .i64 j.nu, .int .i64 j.se, .int .i64 j.co, .int .i64 j.fr] ∧ Dk Z (.agg ⟨[.slice a1 m1 c1, .slice a2 m2 c2]⟩) j.d ∧ ElsR Z (.slice a3 j.s.length c3) j.s := by
 obtain ⟨vb, vp, ve, rfl, h1, h2⟩ := h
 obtain ⟨a1, m1, c1, a2, m2, c2, e⟩ := h1.form
 cases e
 obtain ⟨a3, c3, rfl⟩ := h2.form
 exact ⟨_, _, _, _, _, _, _, _, rfl, h1, h2⟩
theorem LatR.zero {Z : Zone} : LatR Z [.slice none 0 0, .int .u8 0, .string ⟨#[]⟩, .slice none 0 0] (([] : List Tbl), Shp.mk 0 ⟨#[]⟩ []) := by
 refine ⟨.slice none 0 0, _, rfl, TbsR.of (us := []) Sl.nil RowsL.nil, ?_⟩
 simp only [ShR]
 exact ⟨_, [], rfl, Sl.nil, by simp [ShRL]⟩
def Jn.In (d : Nat) (j : Jn) : Prop := ∀ i (h : i < j.s.length), (j.s[i]).Fit d
theorem ThinJ {Z : Zone} {v : Value} {cj : List Value} {ls : List Lat} {j : Jn} {d : Nat} (h : LatsR Z v ls) (hj : JnR Z cj j) (hd : j.In d) :
  Cz M (.func (.func 23) #[] #[]) [v, .agg ⟨cj⟩] Z [] (fun v' Z' A' => (∃ b : Bool, v' = .bool b ∧ (b = true → LatsTh ls ∧ ThinP j.d ∧ j.s.length ≤ 8)) ∧ Z = Z' ∧ A' = []) := by
 refine Cz.shrink ?_
 obtain ⟨av, cv, rfl⟩ := h.form
 obtain ⟨a1, m1, c1, a2, m2, c2, a3, c3, rfl, hD, hE⟩ := hj.form
 obtain ⟨us, hs, hL⟩ := hE
 have no : (∃ b : Bool, outOf [.bool false] = .bool b ∧ (b = true → LatsTh ls ∧ ThinP j.d ∧ j.s.length ≤ 8)) ∧ ([] : List SA) = [] := ⟨⟨false, rfl, fun h => by cases h⟩, rfl⟩
 refine Cz.fn (f := Tryz.f23) (by kernel_rfl) rfl rfl rfl _ rfl ?_
 (repeat first|refine go ?_|intro _)
 rename_i b3
 refine Wk.call rfl rfl (Spl.none _) (thinLats h) rfl rfl rfl ?_
 rintro v' Z' A' hz ⟨⟨b, rfl, hb⟩, rfl, rfl⟩
 (repeat first|refine go ?_|intro _)
 cases b with
 | false =>
  (repeat first|refine go ?_|intro _)
  refine Wk.ret ⟨_, Rs.tmp rfl Rs.nil, _, Sub.none _, no⟩
 | true =>
 have o1 := hb.1 rfl
 (repeat first|refine go ?_|intro _)
 refine Wk.call rfl rfl (Spl.none _) (thinDisk hD) rfl rfl rfl ?_
 rintro v' Z' A' hz ⟨⟨b2, rfl, hb2⟩, rfl, rfl⟩
 (repeat first|refine go ?_|intro _)
 cases b2 with
 | false =>
  (repeat first|refine go ?_|intro _)
  refine Wk.ret ⟨_, Rs.tmp rfl Rs.nil, _, Sub.none _, no⟩
 | true =>
 have o2 := hb2.1 rfl
 (repeat first|refine go ?_|intro _)
 refine Wk.cond rfl (fun hc => ?_) (fun hc => ?_)
 ·(repeat first|refine go ?_|intro _)
  refine Wk.ret ⟨_, Rs.tmp rfl Rs.nil, _, Sub.none _, no⟩
 have o3 : j.s.length ≤ 8 := by simp at hc; omega
 clear hc
 (repeat first|refine go ?_|intro _)
 refine Wk.loop (fun mm L Z' A' => ∃ i : Nat, i ≤ j.s.length ∧ mm = j.s.length - i ∧ Ext Z Z' ∧ A' = [pt b3 (.cells [.slice a1 m1 c1, .slice a2 m2 c2, .slice a3 j.s.length c3, .int .i64 j.h, .int .i64 j.nx, .int .i64 j.nu, .int .i64 j.se, .int .i64 j.co, .int .i64 j.fr] true 0)] ∧ Kp L [(3, .pointer (some ⟨b3, 0, none⟩)), (5, .int .i64 i)]) j.s.length ⟨0, Nat.zero_le _, rfl, Ext.refl _, rfl, kp_⟩ ?_
 rintro mm L Z' A' - ⟨i, hi, rfl, hz, rfl, hk⟩
 refine Wk.kp hk ?_
 clear hk
 have hs' := hs.mono hz
 (repeat first|refine go ?_|intro _)
 refine Wk.cond rfl (fun hc => ?_) (fun hc => ?_)
 ·have hlt : i < j.s.length := by simp at hc; omega
  clear hc
  obtain ⟨k, n, x1, m1, y1, x2, m2, y2, gi, qi⟩ := hL.get i hlt
  (repeat first|refine go ?_|intro _)
  refine Wk.bs (cs := [.int .u8 k, .int .i64 n, .slice x1 m1 y1, .slice x2 m2 y2]) rfl rfl rfl rfl rfl rfl rfl fun b10 => ?_
  refine Wk.alterr (C := [ol 4 (.slice (some ⟨b10, 0, none⟩) 1 1) 1 [.int .u8 k, .int .i64 n, .slice x1 m1 y1, .slice x2 m2 y2]]) Rem.head (fun s h => ol_of_pt (m := 1) (g := 0) rfl (.inl rfl) rfl h) ?_
  first | apply Wk.olFreezer (v := .slice (some ⟨b10, 0, none⟩) 1 1) | apply Wk.olFreeze (v := .slice (some ⟨b10, 0, none⟩) 1 1)
  case p => exact rem
  intro Z1 e1 h10
  have hEs : ElsR Z1 (.slice (some ⟨b10, 0, none⟩) 1 1) [j.s[i]] := ⟨_, h10, by simp only [ElRL]; exact ⟨_, [], by simp, (qi.mono hz).mono e1, rfl⟩⟩
  (repeat first|refine go ?_|intro _)
  refine Wk.call rfl rfl (Spl.none _) (thinLatE LatR.zero hEs (by simp) (fun i' hi' => by obtain rfl : i' = 0 := (by simpa using hi'); exact hd i hlt)) rfl rfl rfl ?_
  rintro v' Z' A' hz2 ⟨⟨b, rfl, hb⟩, rfl, rfl⟩
  (repeat first|refine go ?_|intro _)
  refine Wk.cond rfl (fun hc => ?_) (fun hc => ?_)
  ·(repeat first|refine go ?_|intro _)
   refine Wk.ret ⟨_, Rs.tmp rfl Rs.nil, _, Sub.none _, no⟩
  ·(repeat first|refine go ?_|intro _)
   exact Wk.inv ⟨_, by omega, i + 1, hlt, rfl, hz.trans e1, rfl, kp_⟩
 ·(repeat first|refine go ?_|intro _)
  refine Wk.ret ⟨_, Rs.tmp rfl Rs.nil, _, Sub.none _, ⟨true, rfl, fun _ => ⟨o1, o2, o3⟩⟩, rfl⟩
theorem copyJ {Z : Zone} {cj : List Value} {j : Jn} {d : Nat} (hj : JnR Z cj j) (ht : ThinP j.d) (h8 : j.s.length ≤ 8) (hd : j.In d) :
  Cz M (.func (.func 26) #[] #[]) [.agg ⟨cj⟩] Z [] (fun v' Z' A' => (∃ cs, v' = .agg ⟨cs⟩ ∧ JnR Z' cs j) ∧ A' = []) := by
 obtain ⟨a1, m1, c1, a2, m2, c2, a3, c3, rfl, hD, hE⟩ := hj.form
 refine Cz.fn (f := Tryz.f26) (by kernel_rfl) rfl rfl rfl _ rfl ?_
 (repeat first|refine go ?_|intro _)
 rename_i b1 b2
 refine Wk.drawr (ms := [0, 1, 3, 0, 8, 31, 31, 127, 255, 511]) (l := [0, 1, 3, 4, 2, 6, 5, 7, 8, 9]) (by kernel_rfl) (by kernel_rfl) (by kernel_rfl) rfl ?_
 (repeat first|refine go ?_|intro _)
 refine Wk.callD rfl rfl (Spl.none _) (copyDisk hD ht) rfl rfl fun v' Z1 A' hz1 hq => ?_
 obtain ⟨vB, vP, us', rfl, rfl, hall, hW⟩ := hq
 refine ⟨?_, ?_⟩
 ·(repeat (first | exact PnAll.done | refine PnAll.two ?_ | refine PnAll.skip rfl ?_ | refine PnAll.keep (Rd.loadL rfl rfl has rfl rfl) (by first | exact veq_slice _ _ _ | simp [veq, veqL, veq1]) ?_))
 first | apply Wk.olFreezer (v := vB) | apply Wk.olFreeze (v := vB)
 case p => exact rem
 intro Z2 e2 hB
 have hD2 : Dk Z2 (.agg ⟨[vB, vP]⟩) j.d := ⟨vB, vP, rfl, ⟨us', hB, hall.mono fun _ _ q => q.mono e2⟩, hW.mono e2⟩
 obtain ⟨p1, k1, q1, p2, k2, q2, e⟩ := hD2.form
 cases e
 (repeat first|refine go ?_|intro _)
 refine Wk.callD rfl rfl (Spl.none _) (copyEls (hE.mono (hz1.trans e2)) (by omega) hd) rfl rfl fun v' Z3 A' hz3 hq => ?_
 obtain ⟨hE3, rfl⟩ := hq
 refine ⟨?_, ?_⟩
 ·(repeat (first | exact PnAll.done | refine PnAll.two ?_ | refine PnAll.skip rfl ?_ | refine PnAll.keep (Rd.loadL rfl rfl has rfl rfl) (by first | exact veq_slice _ _ _ | simp [veq, veqL, veq1]) ?_))
 obtain ⟨p3, q3, rfl⟩ := hE3.form
 (repeat first|refine go ?_|intro _)
 refine Wk.dropr (B := [pt b2 (AObj.cells [.slice none 0 0, .slice none 0 0, .slice none 0 0, .int .i64 0, .int .i64 0, .int .i64 0, .int .i64 0, .int .i64 0, .int .i64 0] true 0), pt b1 (AObj.cells [.slice a1 m1 c1, .slice a2 m2 c2, .slice a3 j.s.length c3, .int .i64 j.h, .int .i64 j.nx, .int .i64 j.nu, .int .i64 j.se, .int .i64 j.co, .int .i64 j.fr] true 0)]) (Sub.refl _) ?_
 refine Wk.store rfl rfl rfl rfl rfl (.tail .head) rfl (by kernel_rfl) rfl ?_
 (repeat first|refine go ?_|intro _)
 refine Wk.ret ⟨_, Rs.cell rfl rfl has rfl rfl Rs.nil, _, Sub.none _, ⟨_, rfl, _, _, _, rfl, hD2.mono hz3, hE3⟩, rfl⟩
structure JnOk (ls : List Lat) (j : Jn) : Prop where
 disk : OkDisk j.d
 many : j.s.length = ls.length
 each : ∀ i (h : i < ls.length) (k : i < j.s.length), ElsE ls[i] [j.s[i]] = 0
 h : 0 ≤ j.h ∧ j.h ≤ 1
 nx : 0 ≤ j.nx ∧ j.nx ≤ (j.d.1.length / 2 : Nat)
 nu : 2 ≤ j.nu ∧ j.nu ≤ 2000000001
 se : 1 ≤ j.se ∧ j.se < j.nu
 co : -1 ≤ j.co ∧ j.co ≤ (j.d.1.length / 2 : Nat)
 fr : (j.co < 0 → j.fr = 0) ∧ (0 ≤ j.co → 1 ≤ j.fr ∧ j.fr ≤ j.nu)
open Classical in
noncomputable def JnE (ls : List Lat) (j : Jn) : Int := if LsE ls ≠ 0 then LsE ls else if JnOk ls j then 0 else 4
theorem JnE.lat {ls : List Lat} {j : Jn} (h : LsE ls ≠ 0) : JnE ls j = LsE ls := by unfold JnE; rw [if_pos h]
theorem JnE.bad {ls : List Lat} {j : Jn} (h : LsE ls = 0) (k : ¬ JnOk ls j) : JnE ls j = 4 := by unfold JnE; rw [if_neg (fun q => q h), if_neg k]
theorem JnE.ok {ls : List Lat} {j : Jn} (h : LsE ls = 0) (k : JnOk ls j) : JnE ls j = 0 := by unfold JnE; rw [if_neg (fun q => q h), if_pos k]
theorem CheckJ {Z : Zone} {v : Value} {cj : List Value} {ls : List Lat} {j : Jn} {d : Nat} (h : LatsR Z v ls) (hl : LatsTh ls) (hj : JnR Z cj j) (ht : ThinP j.d) (h8 : j.s.length ≤ 8) (hd : j.In d) :
  Cz M (.func (.func 71) #[] #[]) [v, .agg ⟨cj⟩] Z [] (fun v' Z' A' => v' = .int .i64 (JnE ls j) ∧ Z = Z' ∧ A' = []) := by
 classical
 refine Cz.shrink ?_
 obtain ⟨av, cv, rfl⟩ := h.form
 obtain ⟨us0, hs0, hrow⟩ := id h
 have hl8 := hl.few
 obtain ⟨a1, m1, c1, a2, m2, c2, a3, c3, rfl, hD, hE⟩ := hj.form
 obtain ⟨us, hs, hL⟩ := hE
 refine Cz.fn (f := Tryz.f71) (by kernel_rfl) rfl rfl rfl _ rfl ?_
 (repeat first|refine go ?_|intro _)
 rename_i b3
 refine Wk.call rfl rfl (Spl.none _) (lattices_ h hl) rfl rfl rfl ?_
 rintro v' Z' A' hz ⟨rfl, rfl, rfl⟩
 (repeat first|refine go ?_|intro _)
 refine Wk.cond rfl (fun hc => ?_) (fun hc => ?_)
 ·(repeat first|refine go ?_|intro _)
  refine Wk.ret ⟨_, Rs.tmp rfl Rs.nil, _, Sub.none _, by rw [JnE.lat (by simpa using hc)]; rfl, rfl⟩
 have h0 : LsE ls = 0 := by simpa using hc
 clear hc
 (repeat first|refine go ?_|intro _)
 refine Wk.call rfl rfl (Spl.none _) ((Cz.shrink (checkDisk hD ht))) rfl rfl rfl ?_
 rintro v' Z' A' hz ⟨rfl, rfl, rfl⟩
 have no : ∀ (q : ¬ JnOk ls j), outOf [.int .i64 4] = .int .i64 (JnE ls j) := fun q => by rw [JnE.bad h0 q]; rfl
 by_cases okD : OkDisk j.d
 rotate_left
 ·simp only [if_neg okD]
  (repeat first|refine go ?_|intro _)
  refine Wk.ret ⟨_, Rs.tmp rfl Rs.nil, _, Sub.none _, no (fun k => okD k.disk), rfl⟩
 simp only [if_pos okD]
 (repeat first|refine go ?_|intro _)
 refine Wk.cond rfl (fun hc => ?_) (fun hc => ?_)
 ·(repeat first|refine go ?_|intro _)
  refine Wk.ret ⟨_, Rs.tmp rfl Rs.nil, _, Sub.none _, no (fun k => by have := k.many; simp at hc; omega), rfl⟩
 have hm : j.s.length = ls.length := by simp at hc; omega
 clear hc
 have hpt : True := trivial
 (repeat first|refine go ?_|intro _)
 refine Wk.loop (fun mm L Z' A' => ∃ i : Nat, i ≤ j.s.length ∧ mm = j.s.length - i ∧ Z = Z' ∧ Sub A' [pt b3 (.cells [.slice a1 m1 c1, .slice a2 m2 c2, .slice a3 j.s.length c3, .int .i64 j.h, .int .i64 j.nx, .int .i64 j.nu, .int .i64 j.se, .int .i64 j.co, .int .i64 j.fr] true 0)] ∧ (∀ x, x < i → ∀ (h : x < ls.length) (k : x < j.s.length), ElsE ls[x] [j.s[x]] = 0) ∧ Kp L [(0, .slice av ls.length cv), (3, .pointer (some ⟨b3, 0, none⟩)), (28, .slice a3 j.s.length c3), (29, .int .i64 j.s.length), (30, .int .i64 i)]) j.s.length ⟨0, Nat.zero_le _, rfl, rfl, Sub.refl _, fun x hx => by omega, kp_⟩ ?_
 rintro mm L Z' A' - ⟨i, hi, rfl, rfl, hsub, inv, hk⟩
 refine Wk.drop hsub ?_
 refine Wk.kp hk ?_
 clear hk hsub
 (repeat first|refine go ?_|intro _)
 refine Wk.cond rfl (fun hc => ?_) (fun hc => ?_)
 ·have hlt : i < j.s.length := by simp at hc; omega
  have hlt2 : i < ls.length := by omega
  clear hc
  obtain ⟨k, n, x1, n1, y1, x2, n2, y2, gi, qi⟩ := hL.get i hlt
  obtain ⟨cs, g1, g2⟩ := hrow i hlt2
  obtain ⟨p1, r1, p2, r2, rfl, t1, t2⟩ := g2.form
  (repeat first|refine go ?_|intro _)
  refine Wk.drawr (ms := [0, 0, 3, 7, 0, 31, 63]) (l := [0, 1, 2, 3, 4, 5, 6]) (by kernel_rfl) (by kernel_rfl) (by kernel_rfl) rfl ?_
  (repeat first|refine go ?_|intro _)
  refine Wk.call rfl rfl (Spl.none _) (checkEl g2 (hl.each i hlt2) qi (hd i hlt)) (by kernel_rfl) rfl rfl ?_
  rintro v' Z' A' hz ⟨rfl, rfl, rfl⟩
  (repeat first|refine go ?_|intro _)
  refine Wk.cond rfl (fun hc => ?_) (fun hc => ?_)
  ·(repeat first|refine go ?_|intro _)
   refine Wk.ret ⟨_, Rs.tmp rfl Rs.nil, _, Sub.none _, no (fun k => by have := k.each i hlt2 hlt; simp [this] at hc), rfl⟩
  ·(repeat first|refine go ?_|intro _)
   exact Wk.inv ⟨_, by omega, i + 1, hlt, rfl, rfl, sub_, nextQ inv (fun _ _ => by simpa using hc), kp_⟩
 have hE : ∀ x (h : x < ls.length) (k : x < j.s.length), ElsE ls[x] [j.s[x]] = 0 := fun x h k => inv x (by simp at hc; omega) h k
 clear hc inv
 have hdl := ht.1
 (repeat first|refine go ?_|intro _)
 refine Wk.call rfl rfl (Spl.none _) (half_ hD (by omega)) rfl rfl rfl ?_
 rintro v' Z' A' hz ⟨rfl, rfl, rfl⟩
 (repeat first|refine go ?_|intro _)
 refine Wk.caser 49 rfl (fun hc => ?_) (fun hc => ?_)
 ·(repeat first|refine go ?_|intro _)
  refine Wk.ret ⟨_, Rs.tmp rfl Rs.nil, _, Sub.none _, no (fun k => by (have := k.h; simp at hc; omega)), rfl⟩
 have f1 : 0 ≤ j.h := by simp at hc; omega
 clear hc
 (repeat first|refine go ?_|intro _)
 refine Wk.caser 54 rfl (fun hc => ?_) (fun hc => ?_)
 ·(repeat first|refine go ?_|intro _)
  refine Wk.ret ⟨_, Rs.tmp rfl Rs.nil, _, Sub.none _, no (fun k => by (have := k.h; simp at hc; omega)), rfl⟩
 have f2 : j.h ≤ 1 := by simp at hc; omega
 clear hc
 (repeat first|refine go ?_|intro _)
 refine Wk.caser 59 rfl (fun hc => ?_) (fun hc => ?_)
 ·(repeat first|refine go ?_|intro _)
  refine Wk.ret ⟨_, Rs.tmp rfl Rs.nil, _, Sub.none _, no (fun k => by (have := k.nx; simp at hc; omega)), rfl⟩
 have f3 : 0 ≤ j.nx := by simp at hc; omega
 clear hc
 (repeat first|refine go ?_|intro _)
 refine Wk.caser 65 rfl (fun hc => ?_) (fun hc => ?_)
 ·(repeat first|refine go ?_|intro _)
  refine Wk.ret ⟨_, Rs.tmp rfl Rs.nil, _, Sub.none _, no (fun k => by (have := k.nx; simp at hc; omega)), rfl⟩
 have f4 : j.nx ≤ (j.d.1.length / 2 : Nat) := by simp at hc; omega
 clear hc
 (repeat first|refine go ?_|intro _)
 refine Wk.caser 70 rfl (fun hc => ?_) (fun hc => ?_)
 ·(repeat first|refine go ?_|intro _)
  refine Wk.ret ⟨_, Rs.tmp rfl Rs.nil, _, Sub.none _, no (fun k => by (have := k.nu; simp at hc; omega)), rfl⟩
 have f5 : 2 ≤ j.nu := by simp at hc; omega
 clear hc
 (repeat first|refine go ?_|intro _)
 refine Wk.caser 75 rfl (fun hc => ?_) (fun hc => ?_)
 ·(repeat first|refine go ?_|intro _)
  refine Wk.ret ⟨_, Rs.tmp rfl Rs.nil, _, Sub.none _, no (fun k => by (have := k.nu; simp at hc; omega)), rfl⟩
 have f6 : j.nu ≤ 2000000001 := by simp at hc; omega
 clear hc
 (repeat first|refine go ?_|intro _)
 refine Wk.caser 80 rfl (fun hc => ?_) (fun hc => ?_)
 ·(repeat first|refine go ?_|intro _)
  refine Wk.ret ⟨_, Rs.tmp rfl Rs.nil, _, Sub.none _, no (fun k => by (have := k.se; simp at hc; omega)), rfl⟩
 have f7 : 1 ≤ j.se := by simp at hc; omega
 clear hc
 (repeat first|refine go ?_|intro _)
 refine Wk.caser 87 rfl (fun hc => ?_) (fun hc => ?_)
 ·(repeat first|refine go ?_|intro _)
  refine Wk.ret ⟨_, Rs.tmp rfl Rs.nil, _, Sub.none _, no (fun k => by (have := k.se; simp at hc; omega)), rfl⟩
 have f8 : j.se < j.nu := by simp at hc; omega
 clear hc
 (repeat first|refine go ?_|intro _)
 refine Wk.caser 92 rfl (fun hc => ?_) (fun hc => ?_)
 ·(repeat first|refine go ?_|intro _)
  refine Wk.ret ⟨_, Rs.tmp rfl Rs.nil, _, Sub.none _, no (fun k => by (have := k.co; simp at hc; omega)), rfl⟩
 have f9 : -1 ≤ j.co := by simp at hc; omega
 clear hc
 (repeat first|refine go ?_|intro _)
 refine Wk.cond rfl (fun hc => ?_) (fun hc => ?_)
 ·(repeat first|refine go ?_|intro _)
  refine Wk.ret ⟨_, Rs.tmp rfl Rs.nil, _, Sub.none _, no (fun k => by have := k.co; simp at hc; omega), rfl⟩
 have f10 : j.co ≤ (j.d.1.length / 2 : Nat) := by simp at hc; omega
 clear hc
 (repeat first|refine go ?_|intro _)
 have e9 : (if (1 : Int) < j.co + 1 then (1 : Int) else j.co + 1) = (if j.co < 0 then 0 else 1) := by split <;> split <;> omega
 by_cases hco : j.co < 0
 ·rw [if_pos hco] at e9
  refine Wk.tellr 9 (.int .i64 0) rfl (by rw [e9]) ?_
  refine Wk.caser 106 rfl (fun hc => ?_) (fun hc => ?_)
  ·rw [e9] at hc
   (repeat first|refine go ?_|intro _)
   refine Wk.ret ⟨_, Rs.tmp rfl Rs.nil, _, Sub.none _, no (fun k => by have := k.fr; simp at hc; omega), rfl⟩
  rw [e9] at hc
  (repeat first|refine go ?_|intro _)
  refine Wk.cond rfl (fun hc2 => ?_) (fun hc2 => ?_)
  ·(repeat first|refine go ?_|intro _)
   refine Wk.ret ⟨_, Rs.tmp rfl Rs.nil, _, Sub.none _, no (fun k => by have := k.fr; simp at hc hc2; omega), rfl⟩
  ·(repeat first|refine go ?_|intro _)
   refine Wk.ret ⟨_, Rs.tmp rfl Rs.nil, _, Sub.none _, by rw [JnE.ok h0 ⟨okD, hm, hE, ⟨f1, f2⟩, ⟨f3, f4⟩, ⟨f5, f6⟩, ⟨f7, f8⟩, ⟨f9, f10⟩, by simp at hc hc2; omega⟩]; rfl, rfl⟩
 ·rw [if_neg hco] at e9
  refine Wk.tellr 9 (.int .i64 1) rfl (by rw [e9]) ?_
  refine Wk.caser 106 rfl (fun hc => ?_) (fun hc => ?_)
  ·rw [e9] at hc
   (repeat first|refine go ?_|intro _)
   refine Wk.ret ⟨_, Rs.tmp rfl Rs.nil, _, Sub.none _, no (fun k => by have := k.fr; simp at hc; omega), rfl⟩
  rw [e9] at hc
  (repeat first|refine go ?_|intro _)
  refine Wk.cond rfl (fun hc2 => ?_) (fun hc2 => ?_)
  ·(repeat first|refine go ?_|intro _)
   refine Wk.ret ⟨_, Rs.tmp rfl Rs.nil, _, Sub.none _, no (fun k => by have := k.fr; simp at hc hc2; omega), rfl⟩
  ·(repeat first|refine go ?_|intro _)
   refine Wk.ret ⟨_, Rs.tmp rfl Rs.nil, _, Sub.none _, by rw [JnE.ok h0 ⟨okD, hm, hE, ⟨f1, f2⟩, ⟨f3, f4⟩, ⟨f5, f6⟩, ⟨f7, f8⟩, ⟨f9, f10⟩, by simp at hc hc2; omega⟩]; rfl, rfl⟩
theorem rCheckJ {Z : Zone} {v : Value} {cj : List Value} {ls : List Lat} {j : Jn} {d : Nat} (h : LatsR Z v ls) (hl : LatsTh ls) (hj : JnR Z cj j) (ht : ThinP j.d) (h8 : j.s.length ≤ 8) (hd : j.In d) :
  Cz M (.func (.func 78) #[] #[]) [v, .agg ⟨cj⟩] Z [] (fun v' Z' A' => v' = .int .i64 (JnE ls j) ∧ Z = Z' ∧ A' = []) := by
 classical
 refine Cz.shrink ?_
 obtain ⟨av, cv, rfl⟩ := h.form
 obtain ⟨us0, hs0, hrow⟩ := id h
 have hl8 := hl.few
 obtain ⟨a1, m1, c1, a2, m2, c2, a3, c3, rfl, hD, hE⟩ := hj.form
 obtain ⟨us, hs, hL⟩ := hE
 refine Cz.fn (f := Tryz.f78) (by kernel_rfl) rfl rfl rfl _ rfl ?_
 (repeat first|refine go ?_|intro _)
 rename_i b3
 refine Wk.call rfl rfl (Spl.none _) (rLatticesError h hl) rfl rfl rfl ?_
 rintro v' Z' A' hz ⟨rfl, rfl, rfl⟩
 (repeat first|refine go ?_|intro _)
 refine Wk.cond rfl (fun hc => ?_) (fun hc => ?_)
 ·(repeat first|refine go ?_|intro _)
  refine Wk.ret ⟨_, Rs.tmp rfl Rs.nil, _, Sub.none _, by rw [JnE.lat (by simpa using hc)]; rfl, rfl⟩
 have h0 : LsE ls = 0 := by simpa using hc
 clear hc
 have no : ∀ (q : ¬ JnOk ls j), outOf [.int .i64 4] = .int .i64 (JnE ls j) := fun q => by rw [JnE.bad h0 q]; rfl
 (repeat first|refine go ?_|intro _)
 refine Wk.call rfl rfl (Spl.none _) (IsDisk hD ht) rfl rfl rfl ?_
 rintro v' Z' A' hz ⟨⟨b, rfl, hb⟩, rfl, rfl⟩
 cases b with
 | false =>
  (repeat first|refine go ?_|intro _)
  refine Wk.ret ⟨_, Rs.tmp rfl Rs.nil, _, Sub.none _, no (fun k => by have := hb.2 k.disk; cases this), rfl⟩
 | true =>
 have okD := hb.1 rfl
 (repeat first|refine go ?_|intro _)
 refine Wk.cond rfl (fun hc => ?_) (fun hc => ?_)
 ·(repeat first|refine go ?_|intro _)
  refine Wk.ret ⟨_, Rs.tmp rfl Rs.nil, _, Sub.none _, no (fun k => by have := k.many; simp at hc; omega), rfl⟩
 have hm : j.s.length = ls.length := by simp at hc; omega
 clear hc
 (repeat first|refine go ?_|intro _)
 refine Wk.loop (fun mm L Z' A' => ∃ i : Nat, i ≤ ls.length ∧ mm = ls.length - i ∧ Ext Z Z' ∧ A' = [pt b3 (.cells [.slice a1 m1 c1, .slice a2 m2 c2, .slice a3 j.s.length c3, .int .i64 j.h, .int .i64 j.nx, .int .i64 j.nu, .int .i64 j.se, .int .i64 j.co, .int .i64 j.fr] true 0)] ∧ (∀ x, x < i → ∀ (h : x < ls.length) (k : x < j.s.length), ElsE ls[x] [j.s[x]] = 0) ∧ Kp L [(0, .slice av ls.length cv), (3, .pointer (some ⟨b3, 0, none⟩)), (6, .int .i64 i)]) ls.length ⟨0, Nat.zero_le _, rfl, Ext.refl _, rfl, fun x hx => by omega, kp_⟩ ?_
 rintro mm L Z' A' - ⟨i, hi, rfl, hz, rfl, inv, hk⟩
 refine Wk.kp hk ?_
 clear hk
 have hs' := hs.mono hz
 have hs0' := hs0.mono hz
 (repeat first|refine go ?_|intro _)
 refine Wk.cond rfl (fun hc => ?_) (fun hc => ?_)
 ·have hlt2 : i < ls.length := by simp at hc; omega
  have hlt : i < j.s.length := by omega
  clear hc
  obtain ⟨k, n, x1, n1, y1, x2, n2, y2, gi, qi⟩ := hL.get i hlt
  obtain ⟨cs, g1, g2⟩ := hrow i hlt2
  obtain ⟨p1, r1, p2, r2, rfl, t1, t2⟩ := g2.form
  (repeat first|refine go ?_|intro _)
  refine Wk.drawr (ms := [0, 0, 3, 7, 0, 16, 0, 112, 240, 496, 1023, 2047]) (l := [0, 1, 2, 3, 4, 5, 6, 7, 8, 9, 10, 11]) (by kernel_rfl) (by kernel_rfl) (by kernel_rfl) rfl ?_
  (repeat first|refine go ?_|intro _)
  refine Wk.bs (cs := [.int .u8 k, .int .i64 n, .slice x1 n1 y1, .slice x2 n2 y2]) rfl rfl rfl rfl rfl rfl rfl fun b10 => ?_
  refine Wk.alterr (C := [ol 4 (.slice (some ⟨b10, 0, none⟩) 1 1) 1 [.int .u8 k, .int .i64 n, .slice x1 n1 y1, .slice x2 n2 y2]]) Rem.head (fun s h => ol_of_pt (m := 1) (g := 0) rfl (.inl rfl) rfl h) ?_
  first | apply Wk.olFreezer (v := .slice (some ⟨b10, 0, none⟩) 1 1) | apply Wk.olFreeze (v := .slice (some ⟨b10, 0, none⟩) 1 1)
  case p => exact rem
  intro Z1 e1 h10
  have hEs : ElsR Z1 (.slice (some ⟨b10, 0, none⟩) 1 1) [j.s[i]] := ⟨_, h10, by simp only [ElRL]; exact ⟨_, [], by simp, (qi.mono hz).mono e1, rfl⟩⟩
  (repeat first|refine go ?_|intro _)
  refine Wk.call rfl rfl (Spl.none _) (rCheckEls (g2.mono (hz.trans e1)) (hl.each i hlt2) hEs (by simp) (fun i' hi' => by obtain rfl : i' = 0 := (by simpa using hi'); exact hd i hlt)) (by kernel_rfl) rfl rfl ?_
  rintro v' Z' A' hz2 ⟨rfl, rfl, rfl⟩
  (repeat first|refine go ?_|intro _)
  refine Wk.cond rfl (fun hc => ?_) (fun hc => ?_)
  ·(repeat first|refine go ?_|intro _)
   refine Wk.ret ⟨_, Rs.tmp rfl Rs.nil, _, Sub.none _, no (fun k => by have := k.each i hlt2 hlt; simp [this] at hc), rfl⟩
  ·(repeat first|refine go ?_|intro _)
   exact Wk.inv ⟨_, by omega, i + 1, hlt2, rfl, hz.trans e1, rfl, nextQ inv (fun _ _ => by simpa using hc), kp_⟩
 have hE : ∀ x (h : x < ls.length) (k : x < j.s.length), ElsE ls[x] [j.s[x]] = 0 := fun x h k => inv x (by simp at hc; omega) h k
 clear hc inv
 have hdl := ht.1
 (repeat first|refine go ?_|intro _)
 refine Wk.call rfl rfl (Spl.none _) (rHalf (hD.mono hz) (by omega)) rfl rfl rfl ?_
 rintro v' Z' A' hz2 ⟨rfl, rfl, rfl⟩
 (repeat first|refine go ?_|intro _)
 refine Wk.call rfl rfl (Spl.none _) (In _ _ _) rfl rfl rfl ?_
 rintro v' Z' A' hz2 ⟨rfl, rfl, rfl⟩
 (repeat first|refine go ?_|intro _)
 refine Wk.caser 50 rfl (fun hc => ?_) (fun hc => ?_)
 ·(repeat first|refine go ?_|intro _)
  refine Wk.ret ⟨_, Rs.tmp rfl Rs.nil, _, Sub.none _, no (fun k => by (have := k.h; simp at hc; omega)), rfl⟩
 have f1 : 0 ≤ j.h ∧ j.h ≤ 1 := by simp at hc; omega
 clear hc
 (repeat first|refine go ?_|intro _)
 refine Wk.call rfl rfl (Spl.none _) (In _ _ _) rfl rfl rfl ?_
 rintro v' Z' A' hz2 ⟨rfl, rfl, rfl⟩
 (repeat first|refine go ?_|intro _)
 refine Wk.caser 57 rfl (fun hc => ?_) (fun hc => ?_)
 ·(repeat first|refine go ?_|intro _)
  refine Wk.ret ⟨_, Rs.tmp rfl Rs.nil, _, Sub.none _, no (fun k => by (have := k.nx; simp at hc; omega)), rfl⟩
 have f2 : 0 ≤ j.nx ∧ j.nx ≤ (j.d.1.length / 2 : Nat) := by simp at hc; omega
 clear hc
 (repeat first|refine go ?_|intro _)
 refine Wk.call rfl rfl (Spl.none _) (In _ _ _) rfl rfl rfl ?_
 rintro v' Z' A' hz2 ⟨rfl, rfl, rfl⟩
 (repeat first|refine go ?_|intro _)
 refine Wk.caser 63 rfl (fun hc => ?_) (fun hc => ?_)
 ·(repeat first|refine go ?_|intro _)
  refine Wk.ret ⟨_, Rs.tmp rfl Rs.nil, _, Sub.none _, no (fun k => by (have := k.nu; simp at hc; omega)), rfl⟩
 have f3 : 2 ≤ j.nu ∧ j.nu ≤ 2000000001 := by simp at hc; omega
 clear hc
 (repeat first|refine go ?_|intro _)
 refine Wk.call rfl rfl (Spl.none _) (In _ _ _) rfl rfl rfl ?_
 rintro v' Z' A' hz2 ⟨rfl, rfl, rfl⟩
 (repeat first|refine go ?_|intro _)
 refine Wk.caser 72 rfl (fun hc => ?_) (fun hc => ?_)
 ·(repeat first|refine go ?_|intro _)
  refine Wk.ret ⟨_, Rs.tmp rfl Rs.nil, _, Sub.none _, no (fun k => by (have := k.se; simp at hc; omega)), rfl⟩
 have f4 : 1 ≤ j.se ∧ j.se < j.nu := by simp at hc; omega
 clear hc
 (repeat first|refine go ?_|intro _)
 refine Wk.call rfl rfl (Spl.none _) (In _ _ _) rfl rfl rfl ?_
 rintro v' Z' A' hz2 ⟨rfl, rfl, rfl⟩
 (repeat first|refine go ?_|intro _)
 refine Wk.cond rfl (fun hc => ?_) (fun hc => ?_)
 ·(repeat first|refine go ?_|intro _)
  refine Wk.ret ⟨_, Rs.tmp rfl Rs.nil, _, Sub.none _, no (fun k => by have := k.co; simp at hc; omega), rfl⟩
 have f5 : -1 ≤ j.co ∧ j.co ≤ (j.d.1.length / 2 : Nat) := by simp at hc; omega
 clear hc
 (repeat first|refine go ?_|intro _)
 by_cases hco : j.co < 0
 ·refine Wk.caser 82 rfl (fun hc => ?_) (fun hc => ?_)
  rotate_left
  ·simp at hc; omega
  (repeat first|refine go ?_|intro _)
  refine Wk.caser 87 rfl (fun hc2 => ?_) (fun hc2 => ?_)
  ·(repeat first|refine go ?_|intro _)
   refine Wk.ret ⟨_, Rs.tmp rfl Rs.nil, _, Sub.none _, no (fun k => by have := k.fr; simp at hc2; omega), rfl⟩
  (repeat first|refine go ?_|intro _)
  refine Wk.caser 91 rfl (fun hc3 => ?_) (fun hc3 => ?_)
  ·simp at hc3; omega
  (repeat first|refine go ?_|intro _)
  refine Wk.ret ⟨_, Rs.tmp rfl Rs.nil, _, Sub.none _, by rw [JnE.ok h0 ⟨okD, hm, hE, f1, f2, f3, f4, f5, by simp at hc2; omega⟩]; rfl, rfl⟩
 ·refine Wk.caser 82 rfl (fun hc => ?_) (fun hc => ?_)
  ·simp at hc; omega
  (repeat first|refine go ?_|intro _)
  refine Wk.caser 91 rfl (fun hc3 => ?_) (fun hc3 => ?_)
  rotate_left
  ·simp at hc3; omega
  (repeat first|refine go ?_|intro _)
  refine Wk.call rfl rfl (Spl.none _) (In _ _ _) rfl rfl rfl ?_
  rintro v' Z' A' hz2 ⟨rfl, rfl, rfl⟩
  (repeat first|refine go ?_|intro _)
  refine Wk.cond rfl (fun hc2 => ?_) (fun hc2 => ?_)
  ·(repeat first|refine go ?_|intro _)
   refine Wk.ret ⟨_, Rs.tmp rfl Rs.nil, _, Sub.none _, no (fun k => by have := k.fr; simp at hc2; omega), rfl⟩
  ·(repeat first|refine go ?_|intro _)
   refine Wk.ret ⟨_, Rs.tmp rfl Rs.nil, _, Sub.none _, by rw [JnE.ok h0 ⟨okD, hm, hE, f1, f2, f3, f4, f5, by simp at hc2; omega⟩]; rfl, rfl⟩
set_option maxRecDepth 100000
theorem kJ : Tryz.prog.cellsOf 38 = 9 := by kernel_rfl
theorem len9 {l : List Value} (h : l.length = 9) : ∃ a b c d e f g i j, l = [a, b, c, d, e, f, g, i, j] := by
 match l, h with
 | [a, b, c, d, e, f, g, i, j], _ => exact ⟨a, b, c, d, e, f, g, i, j, rfl⟩
theorem wt_i64 {Z : Zone} {d : Nat} {v : Value} (h : Wt Tryz.prog Z d 3 [v]) : ∃ n, v = .int .i64 n := by
 cases d with
 | zero => exact h.elim
 | succ d =>
  simp only [Wt, Tryz.underlying3] at h
  obtain ⟨n, e, _⟩ := h
  cases e; exact ⟨_, rfl⟩
theorem wt_journal {Z : Zone} {d : Nat} {cs : List Value} (h : Wt Tryz.prog Z d 38 cs) : ∃ j d, JnR Z cs j ∧ Jn.In d j := by
 cases d with
 | zero => exact h.elim
 | succ d =>
  simp only [Wt, Tryz.underlying38, kJ] at h
  obtain ⟨hlen, hf⟩ := h
  obtain ⟨a, b, c, e1, e2, e3, e4, e5, e6, rfl⟩ := len9 hlen
  have f0 := hf _ (List.Mem.head _)
  have f1 := hf _ (List.Mem.tail _ (List.Mem.head _))
  have f2 := hf _ (List.Mem.tail _ (List.Mem.tail _ (List.Mem.head _)))
  have f3 := hf _ (List.Mem.tail _ (List.Mem.tail _ (List.Mem.tail _ (List.Mem.head _))))
  have f4 := hf _ (List.Mem.tail _ (List.Mem.tail _ (List.Mem.tail _ (List.Mem.tail _ (List.Mem.head _)))))
  have f5 := hf _ (List.Mem.tail _ (List.Mem.tail _ (List.Mem.tail _ (List.Mem.tail _ (List.Mem.tail _ (List.Mem.head _))))))
  have f6 := hf _ (List.Mem.tail _ (List.Mem.tail _ (List.Mem.tail _ (List.Mem.tail _ (List.Mem.tail _ (List.Mem.tail _ (List.Mem.head _)))))))
  have f7 := hf _ (List.Mem.tail _ (List.Mem.tail _ (List.Mem.tail _ (List.Mem.tail _ (List.Mem.tail _ (List.Mem.tail _ (List.Mem.tail _ (List.Mem.head _))))))))
  simp only [c28, c3, kEls, List.drop_zero, List.drop_succ_cons, List.take_succ_cons, List.take_zero] at f0 f1 f2 f3 f4 f5 f6 f7
  obtain ⟨dk, hd⟩ := wt_disk (v := .agg ⟨[a, b]⟩) f0 ⟨_, rfl⟩
  obtain ⟨v, els, ee, he, _, hi⟩ := wt_elems f1
  cases ee
  obtain ⟨n1, rfl⟩ := wt_i64 f2
  obtain ⟨n2, rfl⟩ := wt_i64 f3
  obtain ⟨n3, rfl⟩ := wt_i64 f4
  obtain ⟨n4, rfl⟩ := wt_i64 f5
  obtain ⟨n5, rfl⟩ := wt_i64 f6
  obtain ⟨n6, rfl⟩ := wt_i64 f7
  exact ⟨⟨dk, els, n1, n2, n3, n4, n5, n6⟩, d, ⟨_, _, _, rfl, hd, he⟩, fun i h => (hi _ (List.getElem_mem h)).fit⟩
end Go.Proofs.J
