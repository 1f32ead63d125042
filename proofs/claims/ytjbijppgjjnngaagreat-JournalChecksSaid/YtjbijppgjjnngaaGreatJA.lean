/- Rows of bytes and of numbers. -/
import Derived.Test.YtjbijppgjjnngaaGreatEvA
import Derived.Test.YtjbijppgjjnngaaGreatJTab
import Derived.Test.YtjbijppgjjnngaaGreatEvE
import Derived.Test.YtjbijppgjjnngaaGreatEvF
namespace Go.Proofs.J
open Go Go.Ev
def by8 (l : List Int) : List Value := l.map (.int .u8)
def i64s (l : List Int) : List Value := l.map (Value.int .i64)
end Go.Proofs.J

namespace Go.Proofs.J
open Go.Ev Go
set_option linter.unusedVariables false
theorem isNumber {Z : Zone} {A : List SA} (a : Int) : Cz M (.func (.func 106) #[] #[]) [.int .i64 a] Z A (fun v Z' A' => v = .bool (decide (1 ≤ a) && decide (a ≤ 2000000000)) ∧ Z' = Z ∧ A' = A) := by
  refine Cz.fn (f := Tryz.f106) (by kernel_rfl) rfl rfl rfl _ rfl ?_
  refine Wk.seq ?_
  refine Wk.seqr (by kernel_rfl) ?_
  refine Wk.v rfl rfl rfl (Rd.assign rfl) ?_
  refine Wk.rnil ?_
  refine Wk.seq ?_
  refine Wk.seqr (by kernel_rfl) ?_
  refine Wk.v rfl rfl rfl (Rd.move rfl) ?_
  refine Wk.v rfl rfl rfl (Rd.bin rfl rfl rfl) ?_
  refine Wk.v rfl rfl rfl (Rd.move rfl) ?_
  refine Wk.caser 5 rfl ?_ ?_
  · intro h
    refine Wk.v rfl rfl rfl (Rd.move rfl) ?_
    refine Wk.v rfl rfl rfl (Rd.bin rfl rfl rfl) ?_
    refine Wk.v rfl rfl rfl (Rd.pickT rfl rfl) ?_
    refine Wk.v rfl rfl rfl (Rd.assign rfl) ?_
    refine Wk.rnil ?_
    refine Wk.ret ?_
    refine ⟨_, Rs.tmp rfl Rs.nil, _, Sub.refl _, ?_, rfl, rfl⟩
    simp at h
    simp [h, outOf]
  · intro h
    refine Wk.skipd rfl rfl ?_
    refine Wk.skipd rfl rfl ?_
    refine Wk.v rfl rfl rfl (Rd.pickF rfl rfl) ?_
    refine Wk.v rfl rfl rfl (Rd.assign rfl) ?_
    refine Wk.rnil ?_
    refine Wk.ret ?_
    refine ⟨_, Rs.tmp rfl Rs.nil, _, Sub.refl _, ?_, rfl, rfl⟩
    simp at h
    simp [outOf]
    omega
end Go.Proofs.J

namespace Go.Proofs.J
open Go.Ev Go
set_option linter.unusedVariables false
def four (a : Int) : List Int := [a / 16777216 % 256, a / 65536 % 256, a / 256 % 256, a % 256]
theorem okCells_by8 (l : List Int) : okCells (by8 l) = true := by
  simp only [okCells, by8, List.all_map, List.all_eq_true]; intro x _; rfl
theorem number {Z : Zone} (a : Int) : Cz M (.func (.func 118) #[] #[]) [.int .i64 a] Z [] (fun v Z' A' => Z = Z' ∧ A' = [ol 1 v 4 (by8 (four a))]) := by
  refine Cz.fn (f := Tryz.f118) (by kernel_rfl) rfl rfl rfl _ rfl ?_
  (repeat (first | refine Wk.seq ?_ | refine Wk.seqr (by kernel_rfl) ?_ | refine Wk.rnil ?_ | refine Wk.move rfl rfl rfl ?_ | refine Wk.assign rfl rfl rfl ?_ | refine Wk.block ?_ | refine Wk.blk ?_ | refine Wk.skip ?_ | refine Wk.pickT rfl rfl rfl rfl ?_ | refine Wk.pickF rfl rfl rfl rfl ?_ | refine Wk.skipd rfl rfl ?_ | refine Wk.skip0 rfl ?_ | refine Wk.len rfl rfl rfl rfl rfl rfl ?_ | refine Wk.lenStr rfl rfl rfl rfl rfl rfl ?_ | refine Wk.lenSl rfl (by assumption) rfl rfl rfl rfl rfl ?_ | refine Wk.add rfl rfl (by omega) rfl rfl ?_ | refine Wk.sub rfl rfl (by omega) rfl rfl ?_ | refine Wk.mul rfl rfl (by omega) rfl rfl ?_ | refine Wk.quo rfl rfl (by omega) rfl rfl ?_ | refine Wk.rem rfl rfl (by omega) rfl rfl ?_ | refine Wk.bin rfl rfl rfl rfl rfl ?_ | refine Wk.un rfl rfl rfl rfl ?_ | refine Wk.extract rfl rfl rfl rfl ?_ | refine Wk.fa rfl rfl rfl rfl rfl rfl rfl ?_ | refine Wk.conv rfl rfl rfl (IntKind.wrap_u8 _) rfl rfl rfl ?_ | refine Wk.condT rfl ?_ | refine Wk.condF rfl ?_ | refine Wk.exit rfl ?_))
  refine Wk.bs rfl rfl rfl rfl rfl rfl rfl fun b => ?_
  (repeat (first | refine Wk.seq ?_ | refine Wk.seqr (by kernel_rfl) ?_ | refine Wk.rnil ?_ | refine Wk.move rfl rfl rfl ?_ | refine Wk.assign rfl rfl rfl ?_ | refine Wk.block ?_ | refine Wk.blk ?_ | refine Wk.skip ?_ | refine Wk.pickT rfl rfl rfl rfl ?_ | refine Wk.pickF rfl rfl rfl rfl ?_ | refine Wk.skipd rfl rfl ?_ | refine Wk.skip0 rfl ?_ | refine Wk.len rfl rfl rfl rfl rfl rfl ?_ | refine Wk.lenStr rfl rfl rfl rfl rfl rfl ?_ | refine Wk.lenSl rfl (by assumption) rfl rfl rfl rfl rfl ?_ | refine Wk.add rfl rfl (by omega) rfl rfl ?_ | refine Wk.sub rfl rfl (by omega) rfl rfl ?_ | refine Wk.mul rfl rfl (by omega) rfl rfl ?_ | refine Wk.quo rfl rfl (by omega) rfl rfl ?_ | refine Wk.rem rfl rfl (by omega) rfl rfl ?_ | refine Wk.bin rfl rfl rfl rfl rfl ?_ | refine Wk.un rfl rfl rfl rfl ?_ | refine Wk.extract rfl rfl rfl rfl ?_ | refine Wk.fa rfl rfl rfl rfl rfl rfl rfl ?_ | refine Wk.conv rfl rfl rfl (IntKind.wrap_u8 _) rfl rfl rfl ?_ | refine Wk.condT rfl ?_ | refine Wk.condF rfl ?_ | refine Wk.exit rfl ?_))
  refine Wk.alter (C := [ol 1 (.slice (some ⟨b, 0, none⟩) 4 4) 4 (by8 (four a))]) (by (first | exact Rem.head | exact Rem.tail (Rem.head) | exact Rem.tail (Rem.tail (Rem.head)) | exact Rem.tail (Rem.tail (Rem.tail (Rem.head))) | exact Rem.tail (Rem.tail (Rem.tail (Rem.tail (Rem.head)))) | exact Rem.tail (Rem.tail (Rem.tail (Rem.tail (Rem.tail (Rem.head))))) | exact Rem.tail (Rem.tail (Rem.tail (Rem.tail (Rem.tail (Rem.tail (Rem.head)))))) | exact Rem.tail (Rem.tail (Rem.tail (Rem.tail (Rem.tail (Rem.tail (Rem.tail (Rem.head))))))) | exact Rem.tail (Rem.tail (Rem.tail (Rem.tail (Rem.tail (Rem.tail (Rem.tail (Rem.tail (Rem.head)))))))))) (fun s h => ?_) ?_
  · refine ol_of_pt (g := 0) rfl (.inl rfl) (okCells_by8 _) ?_
    simp only [by8, four, List.map]
    have e1 : a.fdiv 16777216 = a / 16777216 := Int.fdiv_eq_ediv_of_nonneg _ (by decide)
    have e2 : a.fdiv 65536 = a / 65536 := Int.fdiv_eq_ediv_of_nonneg _ (by decide)
    have e3 : a.fdiv 256 = a / 256 := Int.fdiv_eq_ediv_of_nonneg _ (by decide)
    rw [← e1, ← e2, ← e3]
    exact h
  · refine Wk.ret ?_
    exact ⟨_, Rs.tmp rfl Rs.nil, _, Sub.refl _, rfl, rfl⟩
end Go.Proofs.J

namespace Go.Proofs.J
open Go.Ev Go
set_option linter.unusedVariables false
/-- slices.Grow of nil. -/
theorem grow {Z : Zone} (k : Nat) (hk : k ≤ 1000000000) : Cz M (.func (.func 171) #[] #[]) [.slice none 0 0, .int .i64 k] Z [] (fun v Z' A' => Z = Z' ∧ A' = [ol 1 v 0 []]) := by
  refine Cz.fn (f := Tryz.f171) (by kernel_rfl) rfl rfl rfl _ rfl ?_
  (repeat refine goS ?_)
  refine Wk.v rfl rfl rfl (Rd.capNil rfl rfl rfl rfl) ?_
  (repeat refine goS ?_)
  refine Wk.cond rfl (fun hc => ?_) (fun hc => ?_)
  · have hk0 : 0 < k := by simp at hc; omega
    (repeat refine goS ?_)
    refine Wk.v rfl rfl rfl (Rd.capNil rfl rfl rfl rfl) ?_
    refine Wk.v rfl rfl rfl (Rd.sliceNil (l := 0) (h := 0) (m := 0) rfl rfl rfl rfl rfl rfl rfl rfl rfl rfl) ?_
    (repeat refine goS ?_)
    refine Wk.e rfl rfl rfl (Ef.append0 k rfl rfl rfl rfl rfl rfl rfl (by omega) hk0 rfl rfl (by omega) (by omega) fun b => ⟨PnAll.nil, ?_⟩)
    (repeat refine goS ?_)
    refine Wk.v (v := .slice (some ⟨b, 0, none⟩) 0 k) rfl rfl rfl (Rd.slice (b := b) (off := 0) (es := 1) (l := 0) (h := 0) (m := k) rfl rfl rfl rfl rfl rfl rfl rfl rfl ?_ (by first | exact Or.inl (by assumption) | (refine Or.inr ?_; repeat (first | exact List.Mem.head _ | refine List.Mem.tail _ ?_))) (.inr rfl)) ?_
    · simp [abounds]
    (repeat refine goS ?_)
    refine Wk.alter (C := [ol 1 (.slice (some ⟨b, 0, none⟩) 0 k) 0 []]) (by repeat (first | exact Rem.head | apply Rem.tail)) (fun s h => ?_) ?_
    · exact Sat.one (.inr (.inr ⟨b, 1, k, _, rfl, Nat.zero_le _, by rw [repCells_length]; rfl, by simp, .inr rfl, okCells_rep rfl _, h⟩))
    refine Wk.ret ?_
    exact ⟨_, Rs.tmp rfl Rs.nil, _, Sub.refl _, rfl, rfl⟩
  · (repeat refine goS ?_)
    refine Wk.olNil 1 ?_
    refine Wk.ret ?_
    exact ⟨_, Rs.tmp rfl Rs.nil, _, Sub.refl _, rfl, rfl⟩
end Go.Proofs.J
namespace Go.Proofs.J
open Go.Ev Go
/-- A slice of slices of bytes. -/
def Bys (Z : Zone) (v : Value) (xss : List (List Int)) : Prop := ∃ us, Sl Z 1 v xss.length us ∧ All2 (fun u xs => Sl Z 1 u xs.length (by8 xs)) us xss
theorem Bys.mono {Z Z' : Zone} {v : Value} {xss : List (List Int)} (e : Ext Z Z') (h : Bys Z v xss) : Bys Z' v xss := let ⟨us, h1, h2⟩ := h; ⟨us, h1.mono e, h2.imp fun _ _ q => q.mono e⟩
theorem flat_take (xss : List (List Int)) (j : Nat) (h : j < xss.length) : (xss.take (j + 1)).flatten = (xss.take j).flatten ++ xss[j] := by
  rw [List.take_succ_eq_append_getElem h, List.flatten_append, List.flatten_cons, List.flatten_nil, List.append_nil]
theorem flat_le (xss : List (List Int)) (j : Nat) : (xss.take j).flatten.length ≤ xss.flatten.length := by
  conv => rhs; rw [← List.take_append_drop j xss]
  rw [List.flatten_append, List.length_append]; omega
theorem by8_append (a b : List Int) : by8 (a ++ b) = by8 a ++ by8 b := by simp [by8]
theorem by8_length (a : List Int) : (by8 a).length = a.length := by simp [by8]
/-- slices.Concat of bytes. -/
theorem concat {Z : Zone} {v : Value} {xss : List (List Int)} (h : Bys Z v xss) (hb : xss.flatten.length ≤ 1000000) (hm : xss.length ≤ 1000000) :
    Cz M (.func (.func 117) #[] #[]) [v] Z [] (fun v' Z' A' => Z = Z' ∧ A' = [ol 1 v' xss.flatten.length (by8 xss.flatten)]) := by
  obtain ⟨us, h1, h2⟩ := h
  have hul : us.length = xss.length := h2.length
  refine Cz.fn (f := Tryz.f117) (by kernel_rfl) rfl rfl rfl _ rfl ?_
  (repeat refine goS ?_)
  refine Wk.loop (fun mm L Z' A' => ∃ j, j ≤ xss.length ∧ mm = xss.length - j ∧ Z = Z' ∧ A' = [] ∧ Kp L [(0, v), (3, .int .i64 (xss.take j).flatten.length), (9, v), (10, .int .i64 xss.length), (11, .int .i64 j)]) xss.length ⟨0, by omega, rfl, rfl, rfl, rfl, rfl, rfl, rfl, rfl, trivial⟩ ?_
  rintro mm L Z' A' hz ⟨j, hj, rfl, rfl, rfl, hk⟩
  refine Wk.kp hk ?_
  clear hk hz
  (repeat refine goS ?_)
  refine Wk.cond rfl (fun hc => ?_) (fun hc => ?_)
  · have hlt : j < xss.length := by simp at hc; omega
    obtain ⟨u, e1, e2⟩ := h2.getElem hlt
    have hs := flat_take xss j hlt
    have hle := flat_le xss (j + 1)
    rw [hs, List.length_append] at hle
    (repeat refine goS ?_)
    refine Wk.iaSl j h1 rfl rfl rfl rfl rfl rfl rfl hlt (getCells_one (by simpa using e1)) fun b off hp => ?_
    refine Wk.loadP0 rfl rfl (by assumption) rfl rfl rfl rfl ?_
    (repeat refine goS ?_)
    refine Wk.inv ⟨_, by omega, j + 1, hlt, rfl, rfl, rfl, rfl, ?_, rfl, rfl, rfl, trivial⟩
    exact eqI (by rw [hs, List.length_append]; omega)
  · have hjm : j = xss.length := by simp at hc; omega
    subst hjm
    have ht : xss.take xss.length = xss := List.take_length
    (repeat refine goS ?_)
    refine Wk.call rfl rfl (Spl.none _) (grow (xss.take xss.length).flatten.length (by rw [ht]; omega)) rfl rfl rfl ?_
    rintro v6 Z' A' hz ⟨rfl, rfl⟩
    (repeat refine goS ?_)
    refine Wk.loop (fun mm L Z' A' => ∃ j v6, j ≤ xss.length ∧ mm = xss.length - j ∧ Z = Z' ∧ A' = [ol 1 v6 (xss.take j).flatten.length (by8 (xss.take j).flatten)] ∧ Kp L [(6, v6), (25, v), (26, .int .i64 xss.length), (27, .int .i64 j)]) xss.length ⟨0, v6, by omega, rfl, rfl, rfl, rfl, rfl, rfl, rfl, trivial⟩ ?_
    rintro mm L Z' A' hz ⟨j, v6, hj, rfl, rfl, rfl, hk⟩
    refine Wk.kp hk ?_
    clear hk hz
    (repeat refine goS ?_)
    refine Wk.cond rfl (fun hc => ?_) (fun hc => ?_)
    · have hlt : j < xss.length := by simp at hc; omega
      obtain ⟨u, e1, e2⟩ := h2.getElem hlt
      have hs := flat_take xss j hlt
      have hle := flat_le xss (j + 1)
      rw [hs, List.length_append] at hle
      (repeat refine goS ?_)
      refine Wk.iaSl j h1 rfl rfl rfl rfl rfl rfl rfl hlt (getCells_one (by simpa using e1)) fun b off hp => ?_
      refine Wk.loadP0 rfl rfl (by assumption) rfl rfl rfl rfl ?_
      (repeat refine goS ?_)
      refine Wk.append rfl rfl rfl rfl rfl rfl rfl rfl (by repeat (first | exact Rem.head | apply Rem.tail)) (Src.sl e2) rfl (okCells_by8 _) (by rw [by8_length]; omega) (by omega) (by omega) rfl rfl rfl fun v6 => ?_
      (repeat refine goS ?_)
      refine Wk.inv ⟨_, by omega, j + 1, v6, hlt, rfl, rfl, ?_, rfl, rfl, rfl, rfl, trivial⟩
      rw [hs, List.length_append, by8_append]
    · have hjm : j = xss.length := by simp at hc; omega
      subst hjm
      (repeat refine goS ?_)
      refine Wk.ret ?_
      exact ⟨_, Rs.tmp rfl Rs.nil, _, Sub.refl _, rfl, by rw [ht]; rfl⟩
end Go.Proofs.J

namespace Go.Proofs.J
open Go.Ev Go
set_option linter.unusedVariables false
/-- The sequence that slices.Chunk gives. -/
def IsChunk (Z : Zone) (fv v : Value) (n : Int) : Prop := ∃ b2 b3, fv = .func (.func 170) #[] ⟨[.pointer (some ⟨b2, 0, none⟩), .pointer (some ⟨b3, 0, none⟩)]⟩ ∧ Pz Z b2 0 [v] ∧ Pz Z b3 0 [.int .i64 n]
theorem Pz.of {Z : Zone} {b : Nat} {cs : List Value} {wr : Bool} {g : Nat} (h : Z b = some (.cells cs wr g)) : Pz Z b 0 cs := ⟨cs, wr, g, h, getCells_all cs⟩
theorem chunk {Z : Zone} {v : Value} {m : Nat} {vs : List Value} (h : Sl Z 1 v m vs) : Cz M (.func (.func 116) #[] #[]) [v, .int .i64 21] Z [] (fun fv Z' A' => A' = [] ∧ IsChunk Z' fv v 21) := by
  refine Cz.fn (f := Tryz.f116) (by kernel_rfl) rfl rfl rfl _ rfl ?_
  (repeat refine goS ?_)
  refine Wk.boxS rfl rfl rfl h.cellsL fun b2 => ?_
  refine Wk.boxS rfl rfl rfl rfl fun b3 => ?_
  (repeat refine goS ?_)
  refine Wk.loadL rfl rfl (by first | exact Or.inl (by assumption) | (refine Or.inr ?_; repeat (first | exact List.Mem.head _ | refine List.Mem.tail _ ?_))) rfl rfl rfl rfl ?_
  (repeat refine goS ?_)
  refine Wk.mkf rfl rfl rfl rfl ?_
  (repeat refine goS ?_)
  refine Wk.freeze (by repeat (first | exact Rem.head | apply Rem.tail)) fun Z1 e1 hb3 => ?_
  refine Wk.freeze (by repeat (first | exact Rem.head | apply Rem.tail)) fun Z2 e2 hb2 => ?_
  refine Wk.ret ?_
  exact ⟨_, Rs.tmp rfl Rs.nil, _, Sub.refl _, rfl, b2, b3, rfl, Pz.of hb2, (Pz.of hb3).mono e2⟩
def part (bs : List Int) (k : Nat) : List Int := (bs.drop (21 * k)).take 21
def many (bs : List Int) : Nat := (bs.length + 20) / 21
/-- What a sequence of slices of bytes does: it hands on each of them, in turn, as long as it is told to. -/
def Yields (Z : Zone) (fv : Value) (N : Nat) (elem : Nat → List Int) : Prop := ∀ (Z0 : Zone) (y : Value) (A : List SA) (J : Nat → Zone → List SA → Prop), Ext Z Z0 → J 0 Z0 A →
  (∀ k Z1 A1 u, Ext Z0 Z1 → k < N → J k Z1 A1 → Sl Z1 1 u (elem k).length (by8 (elem k)) → Cz M y [u] Z1 A1 (fun v' Z' A' => v' = .bool true ∧ J (k + 1) Z' A')) → Cz M fv [y] Z0 A (fun _ Z' A' => J N Z' A')
theorem by8_drop (a : List Int) (i : Nat) : (by8 a).drop i = by8 (a.drop i) := by simp [by8, List.map_drop]
theorem by8_take (a : List Int) (i : Nat) : (by8 a).take i = by8 (a.take i) := by simp [by8, List.map_take]
theorem chunkSeq {Z : Zone} {v fv : Value} {bs : List Int} (hs : Sl Z 1 v bs.length (by8 bs)) (hb : bs.length ≤ 1000000) (hf : IsChunk Z fv v 21) : Yields Z fv (many bs) (part bs) := by
  intro Z0 y A J hz0 h0 hy
  obtain ⟨b2, b3, rfl, p2, p3⟩ := hf
  have hs0 := hs.mono hz0
  have p20 := p2.mono hz0
  have p30 := p3.mono hz0
  have hm : ∀ k, k < many bs ↔ 21 * k < bs.length := fun k => by unfold many; omega
  refine Cz.fn (f := Tryz.f170) (by kernel_rfl) rfl rfl rfl _ rfl ?_
  (repeat refine goS ?_)
  refine Wk.loop (fun mm L Z' A' => ∃ k, k ≤ many bs ∧ mm = many bs - k ∧ Ext Z0 Z' ∧ J k Z' A' ∧ Kp L [(0, y), (1, .pointer (some ⟨b2, 0, none⟩)), (2, .pointer (some ⟨b3, 0, none⟩)), (4, .int .i64 ((21 * k : Nat) : Int))]) (many bs) ⟨0, by omega, rfl, Ext.refl _, h0, rfl, rfl, rfl, rfl, trivial⟩ ?_
  rintro mm L Z' A' - ⟨k, hk, rfl, hz, hJ, hkp⟩
  refine Wk.kp hkp ?_
  clear hkp
  have hs1 := hs0.mono hz
  have p21 := p20.mono hz
  have p31 := p30.mono hz
  have hm1 := hm k
  (repeat refine goS ?_)
  refine Wk.loadP0 rfl rfl (by assumption) rfl rfl rfl rfl ?_
  (repeat refine goS ?_)
  refine Wk.cond rfl (fun hc => ?_) (fun hc => ?_)
  · have hlt : 21 * k < bs.length := by simp at hc; omega
    (repeat refine goS ?_)
    refine Wk.drawr (ms := [0, 0, 0, 6, 14, 31, 63]) (l := [0, 1, 2, 3, 4, 5, 6]) (by kernel_rfl) (by kernel_rfl) (by kernel_rfl) rfl ?_
    refine Wk.loadP0 rfl rfl (by assumption) rfl rfl rfl rfl ?_
    refine Wk.loadP0 rfl rfl (by assumption) rfl rfl rfl rfl ?_
    (repeat refine goS ?_)
    refine Wk.sliceSl (l := 21 * k) (h := bs.length) hs1 rfl rfl rfl rfl rfl rfl rfl rfl rfl rfl rfl ⟨rfl, rfl, by omega, Nat.le_refl _, trivial⟩ fun v16 h16 => ?_
    (repeat refine goS ?_)
    refine Wk.min rfl rfl rfl rfl rfl ?_
    refine Wk.tellr 18 (.int .i64 ((min 21 (bs.length - 21 * k) : Nat) : Int)) rfl (congrArg (Value.int .i64) (by split <;> omega)) ?_
    (repeat refine goS ?_)
    refine Wk.loadP0 rfl rfl (by assumption) rfl rfl rfl rfl ?_
    (repeat refine goS ?_)
    refine Wk.sliceSl (l := 21 * k) (h := 21 * k + min 21 (bs.length - 21 * k)) (nm := some (21 * k + min 21 (bs.length - 21 * k))) (nh := some (21 * k + min 21 (bs.length - 21 * k))) hs1 rfl rfl rfl rfl rfl rfl rfl rfl (asNatI rfl) (asNatI (by omega)) (asNatI (by omega)) ⟨rfl, rfl, by omega, by omega, by omega, by omega, rfl⟩ fun u hu => ?_
    have hpart : ((by8 bs).drop (21 * k * 1)).take ((21 * k + min 21 (bs.length - 21 * k) - 21 * k) * 1) = by8 (part bs k) := by
      rw [Nat.mul_one, Nat.mul_one, Nat.add_sub_cancel_left, by8_drop, by8_take, part]
      congr 1
      rw [Nat.min_def]; split
      · rfl
      · rw [List.take_of_length_le (by simp), List.take_of_length_le (by simp; omega)]
    rw [hpart] at hu
    have hlen : (part bs k).length = 21 * k + min 21 (bs.length - 21 * k) - 21 * k := by simp [part]
    rw [← hlen] at hu
    (repeat refine goS ?_)
    refine Wk.call rfl rfl (Spl.all _) (hy k Z' A' u hz (by omega) hJ hu) rfl rfl rfl ?_
    rintro v' Z2 A2 hz2 ⟨rfl, hJ2⟩
    rw [List.append_nil]
    (repeat refine goS ?_)
    refine Wk.loadP0 rfl rfl (p31.mono hz2) rfl rfl rfl rfl ?_
    (repeat refine goS ?_)
    exact Wk.inv ⟨_, by omega, k + 1, by omega, rfl, hz.trans hz2, hJ2, rfl, rfl, rfl, eqI (by omega), trivial⟩
  · have : k = many bs := by simp at hc; omega
    subst this
    (repeat refine goS ?_)
    exact Wk.done ⟨_, Rs.nil, _, Sub.refl _, hJ⟩
end Go.Proofs.J

namespace Go.Proofs.J
open Go.Ev Go
set_option linter.unusedVariables false
theorem appendSeq {Z : Zone} {fv : Value} {N : Nat} {elem : Nat → List Int} (hN : N ≤ 1000000) (hy : Yields Z fv N elem) :
    Cz M (.func (.func 169) #[] #[]) [.slice none 0 0, fv] Z [] (fun v Z' A' => ∃ us, A' = [ol 1 v N us] ∧ All2 (fun u xs => Sl Z' 1 u xs.length (by8 xs)) us ((List.range N).map elem)) := by
  refine Cz.fn (f := Tryz.f169) (by kernel_rfl) rfl rfl rfl _ rfl ?_
  (repeat refine goS ?_)
  refine Wk.boxS rfl rfl rfl rfl fun b2 => ?_
  (repeat refine goS ?_)
  refine Wk.olNil 1 ?_
  refine Wk.range (fun _ _ _ => rfl) rfl fun l => ?_
  refine (hy Z _ _ (fun k Z' A' => ∃ vv us, A' = [lp l .ready none 169 13 [(6, fv), (4, .slice none 0 0), (2, .pointer (some ⟨b2, 0, none⟩)), (0, .slice none 0 0), (1, fv)] _ _ _, ol 1 vv k us, pt b2 (.cells [vv] true 0)] ∧ All2 (fun u xs => Sl Z' 1 u xs.length (by8 xs)) us ((List.range k).map elem)) (Ext.refl _) ⟨_, [], rfl, .nil⟩ ?_).mono ?_
  · rintro k Z1 A1 u hz hk ⟨vv, us, rfl, hall⟩ hu
    refine Cz.yield (pend := none) Rem.head rfl (by simp) ?_
    (repeat refine goS ?_)
    refine Wk.done ⟨rfl, none, _, Rem.head, ?_⟩
    (repeat refine goS ?_)
    refine Wk.loadL rfl rfl (by first | exact Or.inl (by assumption) | (refine Or.inr ?_; repeat (first | exact List.Mem.head _ | refine List.Mem.tail _ ?_))) rfl rfl rfl rfl ?_
    (repeat refine goS ?_)
    refine Wk.bs (cs := [u]) rfl rfl rfl rfl rfl rfl (by simp [fillL, putAt, repCells, hu.cellsL]) fun b => ?_
    refine Wk.append (kk := 1) (new := [u]) rfl rfl rfl rfl rfl rfl rfl rfl (by repeat (first | exact Rem.head | apply Rem.tail)) (Src.lit (by first | exact Or.inl (by assumption) | (refine Or.inr ?_; repeat (first | exact List.Mem.head _ | refine List.Mem.tail _ ?_))) ?_) rfl ?_ rfl ?_ ?_ rfl rfl rfl fun v6 => ?_
    · rfl
    · have := hu.cellsL
      obtain ⟨a, c, rfl⟩ := hu.form
      rfl
    · omega
    · omega
    refine Wk.dropr (.keep (.drop (Sub.refl _))) ?_
    refine Wk.knowr (x := ol 1 v6 (k + 1) (us ++ [u])) (by repeat (first | exact Rem.head | apply Rem.tail)) (fun s h => ol.form h) ?_
    rintro ⟨a, c, rfl⟩
    refine Wk.store rfl rfl rfl rfl rfl (by repeat (first | exact Upd.head | apply Upd.tail)) rfl rfl rfl ?_
    (repeat refine goS ?_)
    refine Wk.done ⟨.busy, none, _, Rem.tail Rem.head, rfl, _, us ++ [u], rfl, ?_⟩
    rw [List.range_succ, List.map_append]
    exact hall.snoc hu
  · rintro v Z' A' hz ⟨vv, us, rfl, hall⟩
    refine ⟨.ready, none, _, Rem.head, by simp, ?_⟩
    show Wk _ _ _ _ _ _ _ _ _
    (repeat refine goS ?_)
    refine Wk.loadL rfl rfl (by first | exact Or.inl (by assumption) | (refine Or.inr ?_; repeat (first | exact List.Mem.head _ | refine List.Mem.tail _ ?_))) rfl rfl rfl rfl ?_
    (repeat refine goS ?_)
    refine Wk.ret ?_
    exact ⟨_, Rs.tmp rfl Rs.nil, _, .keep (Sub.none _), _, rfl, hall⟩
end Go.Proofs.J

namespace Go.Proofs.J
open Go.Ev Go
set_option linter.unusedVariables false
theorem collect {Z : Zone} {fv : Value} {N : Nat} {elem : Nat → List Int} (hN : N ≤ 1000000) (hy : Yields Z fv N elem) :
    Cz M (.func (.func 115) #[] #[]) [fv] Z [] (fun v Z' A' => ∃ us, A' = [ol 1 v N us] ∧ All2 (fun u xs => Sl Z' 1 u xs.length (by8 xs)) us ((List.range N).map elem)) := by
  refine Cz.fn (f := Tryz.f115) (by kernel_rfl) rfl rfl rfl _ rfl ?_
  (repeat refine goS ?_)
  refine Wk.call rfl rfl (Spl.none _) (appendSeq hN hy) rfl rfl rfl ?_
  rintro v Z' A' hz ⟨us, rfl, hall⟩
  (repeat refine goS ?_)
  refine Wk.ret ?_
  exact ⟨_, Rs.tmp rfl Rs.nil, _, Sub.refl _, us, rfl, hall⟩
/-- A block of a record. -/
def blk (a : Int) (bs : List Int) (i : Nat) : List Int := four a ++ ([(i : Int) % 256, (many bs : Int) % 256, ((part bs i).length : Int) % 256] ++ (part bs i ++ (List.replicate (21 - (part bs i).length) 0 ++ four a)))
theorem part_le (bs : List Int) (i : Nat) : (part bs i).length ≤ 21 := by simp [part]; omega
theorem blk_len (a : Int) (bs : List Int) (i : Nat) : (blk a bs i).length = 32 := by
  have := part_le bs i
  simp [blk, four]; omega
theorem blocks {Z : Zone} {v : Value} {bs : List Int} (a : Int) (hs : Sl Z 1 v bs.length (by8 bs)) (hb : bs.length ≤ 1000000) :
    Cz M (.func (.func 65) #[] #[]) [.int .i64 a, v] Z [] (fun v Z' A' => ∃ us, (255 < many bs → v = .slice none 0 0 ∧ A' = []) ∧ (many bs ≤ 255 → A' = [ol 1 v (many bs) us] ∧ All2 (fun u xs => Sl Z' 1 u xs.length (by8 xs)) us ((List.range (many bs)).map (blk a bs)))) := by
  have hmb : many bs ≤ 1000000 := by unfold many; omega
  refine Cz.fn (f := Tryz.f65) (by kernel_rfl) rfl rfl rfl _ rfl ?_
  (repeat refine goS ?_)
  refine Wk.call rfl rfl (Spl.none _) (chunk hs) rfl rfl rfl ?_
  rintro fv Z1 A' hz1 ⟨rfl, hch⟩
  (repeat refine goS ?_)
  refine Wk.call rfl rfl (Spl.none _) (collect hmb (chunkSeq (hs.mono hz1) hb hch)) rfl rfl rfl ?_
  rintro v5 Z2 A' hz2 ⟨us, rfl, hall⟩
  refine Wk.olFreezer (by repeat (first | exact Rem.head | apply Rem.tail)) fun Z3 hz3 hs5 => ?_
  replace hall := hall.mono fun _ _ q => Sl.mono hz3 q
  (repeat refine goS ?_)
  refine Wk.cond rfl (fun hc => ?_) (fun hc => ?_)
  · have : 255 < many bs := by simp at hc; omega
    (repeat refine goS ?_)
    refine Wk.ret ?_
    exact ⟨_, Rs.tmp rfl Rs.nil, _, Sub.refl _, [], fun _ => ⟨rfl, rfl⟩, fun h => by omega⟩
  have hm255 : many bs ≤ 255 := by simp at hc; omega
  (repeat refine goS ?_)
  refine Wk.olNil 1 ?_
  refine Wk.loop (fun mm L Z' A' => ∃ j v4 us', j ≤ many bs ∧ mm = many bs - j ∧ Ext Z3 Z' ∧ A' = [ol 1 v4 j us'] ∧ All2 (fun u xs => Sl Z' 1 u xs.length (by8 xs)) us' ((List.range j).map (blk a bs)) ∧
    Kp L [(0, .int .i64 a), (4, v4), (5, v5), (15, v5), (16, .int .i64 (many bs)), (17, .int .i64 j)]) (many bs) ⟨0, _, [], by omega, rfl, Ext.refl _, rfl, .nil, rfl, rfl, rfl, rfl, rfl, rfl, trivial⟩ ?_
  rintro mm L Z' A' - ⟨j, v4, us', hj, rfl, hz, rfl, hall', hk⟩
  refine Wk.kp hk ?_
  clear hk
  have hs5' := hs5.mono hz
  (repeat refine goS ?_)
  refine Wk.cond rfl (fun hc => ?_) (fun hc => ?_)
  · have hlt : j < many bs := by simp at hc; omega
    obtain ⟨u, e1, e2⟩ := hall.getElem (i := j) (by simpa using hlt)
    simp only [List.getElem_map, List.getElem_range] at e2
    replace e2 := e2.mono hz
    have hp21 := part_le bs j
    (repeat refine goS ?_)
    refine Wk.iaSl j hs5' rfl rfl rfl rfl rfl rfl rfl hlt (getCells_one (by simpa using e1)) fun b off hp => ?_
    refine Wk.loadP0 rfl rfl (by assumption) rfl rfl rfl rfl ?_
    (repeat refine goS ?_)
    refine Wk.drawr (ms := [0, 1, 0, 4, 0, 16, 48, 0, 128, 384, 1020, 0, 0, 4096, 12288, 28672, 0, 65539, 262143, 524287, 1048575]) (l := [0, 2, 3, 4, 5, 6, 7, 8, 9, 10, 11, 12, 13, 14, 15, 16, 1, 17, 18, 19, 20]) (by kernel_rfl) (by kernel_rfl) (by kernel_rfl) rfl ?_
    (repeat refine goS ?_)
    refine Wk.bs rfl rfl rfl rfl rfl rfl rfl fun b32 => ?_
    (repeat refine goS ?_)
    refine Wk.mks (21 - (part bs j).length) (21 - (part bs j).length) rfl rfl rfl rfl rfl rfl (by omega) (by omega) (Nat.le_refl _) (by simp; omega) (by omega) fun b37 => ?_
    (repeat refine goS ?_)
    refine Wk.call rfl rfl (Spl.none _) (number a) rfl rfl rfl ?_
    rintro v23 Z' A' hz4 ⟨rfl, rfl⟩
    (repeat refine goS ?_)
    refine Wk.call rfl rfl (Spl.none _) (number a) rfl rfl rfl ?_
    rintro v39 Z' A' hz5 ⟨rfl, rfl⟩
    clear hz4 hz5
    refine Wk.olFreezer (by repeat (first | exact Rem.head | apply Rem.tail)) fun Z4 hz4 h39 => ?_
    refine Wk.olFreezer (by repeat (first | exact Rem.head | apply Rem.tail)) fun Z5 hz5 h23 => ?_
    refine Wk.freezer (by repeat (first | exact Rem.head | apply Rem.tail)) fun Z6 hz6 h37 => ?_
    refine Wk.freezer (by repeat (first | exact Rem.head | apply Rem.tail)) fun Z7 hz7 h32 => ?_
    replace h37 := hz7 _ _ h37
    replace h23 := h23.mono (hz6.trans hz7)
    replace h39 := h39.mono ((hz5.trans hz6).trans hz7)
    have e2' := e2.mono (((hz4.trans hz5).trans hz6).trans hz7)
    refine Wk.bs (cs := [v23, .slice (some ⟨b32, 0, none⟩) 3 3, u, .slice (some ⟨b37, 0, none⟩) (21 - (part bs j).length) (21 - (part bs j).length), v39]) rfl rfl rfl rfl rfl rfl (by simp [fillL, putAt, repCells, h23.cellsL, h39.cellsL, e2'.cellsL, cellsL_slice]) fun b40 => ?_
    refine Wk.freezer (by repeat (first | exact Rem.head | apply Rem.tail)) fun Z8 hz8 h40 => ?_
    have hbys : Bys Z8 (.slice (some ⟨b40, 0, none⟩) 5 5) [four a, [(j : Int) % 256, (many bs : Int) % 256, ((part bs j).length : Int) % 256], part bs j, List.replicate (21 - (part bs j).length) 0, four a] := by
      refine ⟨_, Sl.ofAll h40 rfl (.inl rfl), ?_⟩
      refine .cons (h23.mono hz8) (.cons ((Sl.ofAll (m := 3) h32 rfl (.inl rfl)).mono hz8) (.cons (e2'.mono hz8) (.cons ?_ (.cons (h39.mono hz8) .nil))))
      have := (Sl.ofAll (sz := 1) (m := 21 - (part bs j).length) h37 (by rw [repCells_length]; rfl) (.inl rfl)).mono hz8
      rw [List.length_replicate]
      have er : repCells [Value.int .u8 0] (21 - (part bs j).length) = by8 (List.replicate (21 - (part bs j).length) 0) := by
        generalize 21 - (part bs j).length = q
        induction q with
        | zero => rfl
        | succ q ih => simp only [repCells, ih, List.replicate_succ, by8, List.map_cons]; rfl
      rw [← er]; exact this
    have hfl : [four a, [(j : Int) % 256, (many bs : Int) % 256, ((part bs j).length : Int) % 256], part bs j, List.replicate (21 - (part bs j).length) 0, four a].flatten = blk a bs j := by simp [blk]
    have hbl := blk_len a bs j
    refine Wk.call rfl rfl (Spl.none _) (concat hbys (by rw [hfl]; omega) (by simp)) rfl rfl rfl ?_
    rintro v41 Z' A' hz9 ⟨rfl, rfl⟩
    rw [hfl, hbl]
    refine Wk.olFreezer (by repeat (first | exact Rem.head | apply Rem.tail)) fun Z9 hz9 h41 => ?_
    (repeat refine goS ?_)
    refine Wk.bs (cs := [v41]) rfl rfl rfl rfl rfl rfl (by simp [fillL, putAt, repCells, h41.cellsL]) fun b44 => ?_
    refine Wk.append (kk := 1) (new := [v41]) rfl rfl rfl rfl rfl rfl rfl rfl (by repeat (first | exact Rem.head | apply Rem.tail)) (Src.lit (by first | exact Or.inl (by assumption) | (refine Or.inr ?_; repeat (first | exact List.Mem.head _ | refine List.Mem.tail _ ?_))) rfl) rfl (by obtain ⟨_, _, rfl⟩ := h41.form; rfl) rfl (by omega) (by omega) rfl rfl rfl fun v45 => ?_
    refine Wk.dropr (.keep (Sub.none _)) ?_
    (repeat refine goS ?_)
    have hza : Ext Z' Z9 := ((((hz4.trans hz5).trans hz6).trans hz7).trans hz8).trans hz9
    refine Wk.inv ⟨_, by omega, j + 1, v45, us' ++ [v41], hlt, rfl, hz.trans hza, rfl, ?_, rfl, rfl, rfl, rfl, rfl, rfl, trivial⟩
    rw [List.range_succ, List.map_append]
    refine (hall'.mono fun _ _ q => q.mono hza).snoc ?_
    rw [hbl]; exact h41
  · have : j = many bs := by simp at hc; omega
    subst this
    (repeat refine goS ?_)
    refine Wk.ret ?_
    exact ⟨_, Rs.tmp rfl Rs.nil, _, Sub.refl _, us', fun h => by omega, fun _ => ⟨rfl, hall'⟩⟩
end Go.Proofs.J

namespace Go.Proofs.J
open Go.Ev Go
set_option linter.unusedVariables false
def recOf (a : Int) (bs : List Int) : List (List Int) := (List.range (many bs)).map (blk a bs)
def errOf (a : Int) (bs : List Int) : Int := if ¬ (1 ≤ a ∧ a ≤ 2000000000) then 3 else if bs.length = 0 then 2 else if 255 < many bs then 5 else 0
def outB (a : Int) (bs : List Int) : List (List Int) := if errOf a bs = 0 then recOf a bs else []
def OutB (a : Int) (bs : List Int) (v : Value) (Z' : Zone) (A' : List SA) : Prop := ∃ w, v = .tuple ⟨[w, .int .i64 (errOf a bs)]⟩ ∧ A' = [] ∧ Bys Z' w (outB a bs)
theorem Bys.nil {Z : Zone} : Bys Z (.slice none 0 0) [] := ⟨[], Sl.nil, .nil⟩
theorem outB_err {a : Int} {bs : List Int} (h : errOf a bs ≠ 0) : outB a bs = [] := by simp [outB, h]
theorem Blocks {Z : Zone} {v : Value} {bs : List Int} (a : Int) (hs : Sl Z 1 v bs.length (by8 bs)) (hb : bs.length ≤ 1000000) :
    Cz M (.func (.func 44) #[] #[]) [.int .i64 a, v] Z [] (OutB a bs) := by
  have bad : ∀ {q : Int} {Z' : Zone}, errOf a bs = q → q ≠ 0 → OutB a bs (outOf [.slice none 0 0, .int .i64 q]) Z' [] := by
    intro q Z' e hq
    refine ⟨.slice none 0 0, ?_, rfl, ?_⟩
    · rw [e]; rfl
    · rw [outB_err (by rw [e]; exact hq)]; exact Bys.nil
  refine Cz.fn (f := Tryz.f44) (by kernel_rfl) rfl rfl rfl _ rfl ?_
  (repeat refine goS ?_)
  refine Wk.call rfl rfl (Spl.none _) (isNumber a) rfl rfl rfl ?_
  rintro v Z' A' hz ⟨rfl, rfl, rfl⟩
  (repeat refine goS ?_)
  refine Wk.cond rfl (fun hc => ?_) (fun hc => ?_)
  · (repeat refine goS ?_)
    refine Wk.ret ?_
    exact ⟨_, Rs.tmp rfl (Rs.tmp rfl Rs.nil), _, Sub.refl _, bad (by simp [errOf]; intro _; simp at hc; omega) (by decide)⟩
  have hr : 1 ≤ a ∧ a ≤ 2000000000 := by simp at hc; exact hc
  (repeat refine goS ?_)
  refine Wk.cond rfl (fun hc => ?_) (fun hc => ?_)
  · have h0 : bs.length = 0 := by simp at hc; simp [hc]
    (repeat refine goS ?_)
    refine Wk.ret ?_
    exact ⟨_, Rs.tmp rfl (Rs.tmp rfl Rs.nil), _, Sub.refl _, bad (by rw [errOf, if_neg (by simp; exact hr), if_pos h0]) (by decide)⟩
  have h0 : bs.length ≠ 0 := by simp at hc; simp [hc]
  (repeat refine goS ?_)
  refine Wk.call rfl rfl (Spl.none _) (blocks a hs hb) rfl rfl rfl ?_
  rintro w Z' A' hz ⟨us, k1, k2⟩
  by_cases hm : 255 < many bs
  · obtain ⟨rfl, rfl⟩ := k1 hm
    (repeat refine goS ?_)
    refine Wk.ret ?_
    exact ⟨_, Rs.tmp rfl (Rs.tmp rfl Rs.nil), _, Sub.refl _, bad (by rw [errOf, if_neg (by simp; exact hr), if_neg h0, if_pos hm]) (by decide)⟩
  · obtain ⟨rfl, hall⟩ := k2 (by omega)
    have he : errOf a bs = 0 := by rw [errOf, if_neg (by simp; exact hr), if_neg h0, if_neg hm]
    refine Wk.knowr (x := ol 1 w (many bs) us) (by repeat (first | exact Rem.head | apply Rem.tail)) (fun s h => ol.some h (by unfold many; omega)) ?_
    rintro ⟨b, c, rfl⟩
    (repeat refine goS ?_)
    refine Wk.olFreeze (by repeat (first | exact Rem.head | apply Rem.tail)) fun Z3 hz3 hw => ?_
    refine Wk.ret ?_
    refine ⟨_, Rs.tmp rfl (Rs.tmp rfl Rs.nil), _, Sub.refl _, .slice (some b) (many bs) c, ?_, rfl, us, ?_, ?_⟩
    · rw [he]; rfl
    · rw [outB, if_pos he, recOf, List.length_map, List.length_range]; exact hw
    · rw [outB, if_pos he]; exact hall.mono fun _ _ q => q.mono hz3
theorem In {Z : Zone} (a b c : Int) : Cz M (.func (.func 67) #[] #[]) [.int .i64 a, .int .i64 b, .int .i64 c] Z [] (fun v Z' A' => v = .bool (decide (b ≤ a) && decide (a ≤ c)) ∧ Z = Z' ∧ A' = []) := by
  refine Cz.fn (f := Tryz.f67) (by kernel_rfl) rfl rfl rfl _ rfl ?_
  (repeat refine goS ?_)
  refine Wk.caser 10 rfl (fun h => ?_) (fun h => ?_)
  · (repeat refine goS ?_)
    refine Wk.ret ?_
    refine ⟨_, Rs.tmp rfl Rs.nil, _, Sub.refl _, ?_, rfl, rfl⟩
    simp at h
    simp [h, outOf]
  · (repeat refine goS ?_)
    refine Wk.ret ?_
    refine ⟨_, Rs.tmp rfl Rs.nil, _, Sub.refl _, ?_, rfl, rfl⟩
    simp at h
    simp [outOf]
    omega
end Go.Proofs.J

namespace Go.Proofs.J
open Go.Ev Go
set_option linter.unusedVariables false
end Go.Proofs.J

namespace Go.Proofs.J
open Go.Ev Go
set_option linter.unusedVariables false
end Go.Proofs.J
