/- WT -/
import Derived.Test.YtlmmgebealakkaaGreatDoorRows
import Derived.Test.YtlmmgebealakkaaGreatDoorTab
import Derived.Test.YtlmmgebealakkaaGreatDoorEvF
import Derived.Test.YtlmmgebealakkaaGreatDoorPL
import Derived.Test.YtlmmgebealakkaaGreatDoorOK
/- Arguments, out of what Wt tells of them. -/
namespace Go.Proofs.J
open Go.Ev Go
set_option linter.unusedVariables false
set_option maxHeartbeats 4000000
theorem drop1 {vs : List Value} {i : Nat} {x : Value} (h : (vs.drop (i * 1)).take 1 = [x]) : vs[i]? = some x := by
  rw [Nat.mul_one] at h
  have := congrArg (fun l => l[0]?) h
  simpa [List.getElem?_take, List.getElem?_drop] using this
theorem list_of {α : Type} {R : Value → α → Prop} : ∀ (vs : List Value), (∀ i, i < vs.length → ∃ x a, vs[i]? = some x ∧ R x a) → ∃ l : List α, All2 R vs l
  | [], _ => ⟨[], .nil⟩
  | v :: vs, h => by
    obtain ⟨x, a, h1, h2⟩ := h 0 (by simp)
    obtain ⟨l, hl⟩ := list_of vs fun i hi => by have := h (i + 1) (by simp; omega); simpa using this
    simp at h1
    exact ⟨a :: l, .cons (h1 ▸ h2) hl⟩
theorem c5 : Tryz.prog.cellsOf 5 = 1 := by kernel_rfl
theorem c3 : Tryz.prog.cellsOf 3 = 1 := by kernel_rfl
end Go.Proofs.J
/- Lattices, out of what Wt tells of them. -/
namespace Go.Proofs.J
open Go Go.Ev
set_option linter.unusedVariables false
set_option maxHeartbeats 4000000
theorem k9 : Tryz.prog.cellsOf 9 = 1 := by kernel_rfl
theorem k4 : Tryz.prog.cellsOf 4 = 1 := by kernel_rfl
theorem len4 {l : List Value} (h : l.length = 4) : ∃ a b c d, l = [a, b, c, d] := by
  match l, h with
  | [a, b, c, d], _ => exact ⟨a, b, c, d, rfl⟩
end Go.Proofs.J
/- Elements, out of what Wt tells of them. -/
namespace Go.Proofs.J
open Go Go.Ev
set_option linter.unusedVariables false
set_option maxHeartbeats 4000000
theorem kEl : Tryz.prog.cellsOf 31 = 4 := by kernel_rfl
theorem bEl : Tryz.prog.bytesOf 31 = 64 := by kernel_rfl
theorem bInt : Tryz.prog.bytesOf 3 = 8 := by kernel_rfl
theorem kEls : Tryz.prog.cellsOf 29 = 1 := by kernel_rfl
theorem kInts : Tryz.prog.cellsOf 28 = 1 := by kernel_rfl
theorem wf_i64 {n : Int} (h : (Lit.int .i64 n).wf = true) : -9223372036854775808 ≤ n ∧ n ≤ 9223372036854775807 := by
  simp [Lit.wf, IntKind.min, IntKind.max, IntKind.signed, IntKind.bits] at h
  exact h
theorem wf_u8 {n : Int} (h : (Lit.int .u8 n).wf = true) : 0 ≤ n ∧ n ≤ 255 := by
  simp [Lit.wf, IntKind.min, IntKind.max, IntKind.signed, IntKind.bits] at h
  exact h
/-- An element that lies in memory, of so few levels. -/
structure El.In (d : Nat) (e : El) : Prop where
  lv : e.levels ≤ d
  sm : ∀ k, e.Sm k
theorem El.In.fit {d : Nat} {e : El} (h : e.In d) : e.Fit d := ⟨h.lv, h.sm d⟩
theorem elrl_of {Z : Zone} {m d : Nat} {vs : List Value} (hl : vs.length = m * 4) (h : ∀ i, i < m → ∃ s, ElR Z s ((vs.drop (i * 4)).take 4) ∧ s.In d) : ∃ l : List El, l.length = m ∧ ElRL Z l vs ∧ ∀ s ∈ l, s.In d := by
  have key : ∀ k, k ≤ m → ∃ l : List El, l.length = k ∧ ElRL Z l (vs.take (k * 4)) ∧ ∀ s ∈ l, s.In d := by
    intro k
    induction k with
    | zero => exact fun _ => ⟨[], rfl, by simp [ElRL], by simp⟩
    | succ k ih =>
      intro hk
      obtain ⟨l, h1, h2, h3⟩ := ih (by omega)
      obtain ⟨x, hx, hi⟩ := h k (by omega)
      refine ⟨l ++ [x], by simp [h1], ?_, ?_⟩
      · rw [Nat.add_mul, Nat.one_mul, List.take_add]
        exact ElRL.snoc hx h2
      · intro s hs
        rcases List.mem_append.1 hs with q | q
        · exact h3 s q
        · rw [List.mem_singleton.1 q]; exact hi
  obtain ⟨l, h1, h2, h3⟩ := key m (Nat.le_refl _)
  refine ⟨l, h1, ?_, h3⟩
  rw [← hl, List.take_length] at h2
  exact h2
theorem wt_keys {Z : Zone} {d : Nat} {cs : List Value} (h : Wt Tryz.prog Z d 28 cs) : ∃ (v : Value) (xs : List Int), cs = [v] ∧ Sl Z 1 v xs.length (xs.map (Value.int .i64)) ∧ xs.length ≤ 17592186044416 ∧ ∀ k ∈ xs, -9223372036854775808 ≤ k ∧ k ≤ 9223372036854775807 := by
  cases d with
  | zero => exact h.elim
  | succ d =>
    simp only [Wt, Tryz.underlying28, c3] at h
    obtain ⟨v, m, vs, rfl, hs, hm, hw⟩ := h
    have hl := hs.length
    obtain ⟨l, hl2⟩ := list_of (R := fun x a => x = Value.int .i64 a ∧ (-9223372036854775808 ≤ a ∧ a ≤ 9223372036854775807)) vs fun i hi => by
      have := hw i (by omega)
      cases d with
      | zero => exact this.elim
      | succ d =>
        simp only [Wt, Tryz.underlying3] at this
        obtain ⟨n, e, k⟩ := this
        exact ⟨_, n, drop1 e, rfl, wf_i64 k⟩
    have e : vs = l.map (Value.int .i64) ∧ ∀ k ∈ l, -9223372036854775808 ≤ k ∧ k ≤ 9223372036854775807 := by
      clear hs hw hl
      induction hl2 with
      | nil => exact ⟨rfl, by simp⟩
      | cons h _ ih => exact ⟨by rw [h.1, ih.1]; rfl, fun k hk => by
        cases hk with
        | head => exact h.2
        | tail _ q => exact ih.2 k q⟩
    obtain ⟨rfl, hb⟩ := e
    have : m = l.length := by simp at hl; omega
    subst this
    refine ⟨v, l, rfl, hs, ?_, hb⟩
    have := hm.2
    rw [bInt] at this
    simp only [reachBytes] at this
    omega
theorem wt_elem {Z : Zone} : ∀ (d : Nat) {cs : List Value}, Wt Tryz.prog Z d 31 cs → ∃ e, ElR Z e cs ∧ e.In d := by
  intro d
  induction d using Nat.strongRecOn with
  | _ d ih =>
  intro cs h
  cases d with
  | zero => exact h.elim
  | succ d =>
    simp only [Wt, Tryz.underlying31, kEl] at h
    obtain ⟨hlen, hf⟩ := h
    obtain ⟨a, b, c, e, rfl⟩ := len4 hlen
    have f0 := hf _ (List.Mem.head _)
    have f1 := hf _ (List.Mem.tail _ (List.Mem.head _))
    have f2 := hf _ (List.Mem.tail _ (List.Mem.tail _ (List.Mem.head _)))
    have f3 := hf _ (List.Mem.tail _ (List.Mem.tail _ (List.Mem.tail _ (List.Mem.head _))))
    simp only [c5, c3, kInts, kEls, List.drop_zero, List.drop_succ_cons, List.take_succ_cons, List.take_zero] at f0 f1 f2 f3
    obtain ⟨v2, xs, e2, h2, hx1, hx2⟩ := wt_keys f2
    cases e2
    cases d with
    | zero => exact f3.elim
    | succ d =>
      simp only [Wt, Tryz.underlying5] at f0
      simp only [Wt, Tryz.underlying3] at f1
      simp only [Wt, Tryz.underlying29, kEl] at f3
      obtain ⟨k, e0, w0⟩ := f0
      obtain ⟨n, e1, w1⟩ := f1
      obtain ⟨v, m, vs, e3, hs, hm, hw⟩ := f3
      cases e0
      cases e1
      cases e3
      obtain ⟨l, hl, hR, hI⟩ := elrl_of hs.length fun i hi => ih d (by omega) (hw i hi)
      subst hl
      refine ⟨.mk k n xs l, by simp only [ElR]; exact ⟨_, _, _, rfl, h2, hs, hR⟩, ?_, ?_⟩
      · have := (elLevelsL_le (l := l) (n := d)).2 fun s hs => (hI s hs).lv
        simp only [El.levels]
        omega
      · intro q
        cases q with
        | zero => trivial
        | succ q =>
          refine ⟨hx1, ?_, wf_i64 w1, wf_u8 w0, hx2, fun s hs => (hI s hs).sm q⟩
          have := hm.2
          rw [bEl] at this
          simp only [reachBytes] at this
          show l.length ≤ _
          omega
end Go.Proofs.J
