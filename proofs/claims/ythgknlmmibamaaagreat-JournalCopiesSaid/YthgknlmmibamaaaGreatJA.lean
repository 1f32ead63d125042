/- JA -/
import Derived.Test.YthgknlmmibamaaaGreatEvF
import Derived.Test.YthgknlmmibamaaaGreatEvA
import Derived.Test.YthgknlmmibamaaaGreatJTab
import Derived.Test.YthgknlmmibamaaaGreatEvE
namespace Go.Proofs.J
attribute [local irreducible] Go.Ev.Wk
open Go Go.Ev
def by8 (l : List Int) : List Value := l.map (.int .u8)
def i64s (l : List Int) : List Value := l.map (Value.int .i64)
open Go.Ev Go
set_option linter.unusedVariables false
theorem isNumber {Z : Zone} {A : List SA} (a : Int) : Cz M (.func (.func 86) #[] #[]) [.int .i64 a] Z A (fun v Z' A' => v = .bool (decide (1 ≤ a) && decide (a ≤ 2000000000)) ∧ Z' = Z ∧ A' = A) := by
 refine Cz.fn (f := Tryz.f86) (by kernel_rfl) rfl rfl rfl _ rfl ?_
 refine Wk.seq ?_
 refine Wk.seqr (by kernel_rfl) ?_
 refine Wk.v rfl rfl rfl (Rd.assign rfl) ?_
 refine Wk.rnil ?_
 refine Wk.seq ?_
 refine Wk.seqr (by kernel_rfl) ?_
 refine Wk.v rfl rfl rfl (Rd.move rfl) ?_
 refine Wk.v rfl rfl rfl (Rd.bin rfl rfl rfl) ?_
 refine Wk.v rfl rfl rfl (Rd.move rfl) ?_
 refine Wk.caser 5 rfl ?_ ?_
 ·intro h
  refine Wk.v rfl rfl rfl (Rd.move rfl) ?_
  refine Wk.v rfl rfl rfl (Rd.bin rfl rfl rfl) ?_
  refine Wk.v rfl rfl rfl (Rd.pickT rfl rfl) ?_
  refine Wk.v rfl rfl rfl (Rd.assign rfl) ?_
  refine Wk.rnil ?_
  refine Wk.ret ?_
  refine ⟨_, Rs.tmp rfl Rs.nil, _, Sub.refl _, ?_, rfl, rfl⟩
  simp at h
  simp [h, outOf]
 ·intro h
  refine Wk.skipd rfl rfl ?_
  refine Wk.skipd rfl rfl ?_
  refine Wk.v rfl rfl rfl (Rd.pickF rfl rfl) ?_
  refine Wk.v rfl rfl rfl (Rd.assign rfl) ?_
  refine Wk.rnil ?_
  refine Wk.ret ?_
  refine ⟨_, Rs.tmp rfl Rs.nil, _, Sub.refl _, ?_, rfl, rfl⟩
  simp at h
  simp [outOf]
  omega
def four (a : Int) : List Int := [a / 16777216 % 256, a / 65536 % 256, a / 256 % 256, a % 256]
theorem okCells_by8 (l : List Int) : okCells (by8 l) = true := by
 simp only [okCells, by8, List.all_map, List.all_eq_true]; intro x _; rfl
theorem number {Z : Zone} (a : Int) : Cz M (.func (.func 143) #[] #[]) [.int .i64 a] Z [] (fun v Z' A' => Z = Z' ∧ A' = [ol 1 v 4 (by8 (four a))]) := by
 refine Cz.fn (f := Tryz.f143) (by kernel_rfl) rfl rfl rfl _ rfl ?_
 (repeat (first | refine Wk.seq ?_ | refine Wk.seqr (by kernel_rfl) ?_ | refine Wk.rnil ?_ | refine Wk.move rfl rfl rfl ?_ | refine Wk.assign rfl rfl rfl ?_ | refine Wk.block ?_ | refine Wk.blk ?_ | refine Wk.skip ?_ | refine Wk.pickT rfl rfl rfl rfl ?_ | refine Wk.pickF rfl rfl rfl rfl ?_ | refine Wk.skipd rfl rfl ?_ | refine Wk.skip0 rfl ?_ | refine Wk.len rfl rfl rfl rfl rfl rfl ?_ | refine Wk.lenStr rfl rfl rfl rfl rfl rfl ?_ | refine Wk.lenSl rfl (by assumption) rfl rfl rfl rfl rfl ?_ | refine Wk.add rfl rfl (by omega) rfl rfl ?_ | refine Wk.sub rfl rfl (by omega) rfl rfl ?_ | refine Wk.mul rfl rfl (by omega) rfl rfl ?_ | refine Wk.quo rfl rfl (by omega) rfl rfl ?_ | refine Wk.rem rfl rfl (by omega) rfl rfl ?_ | refine Wk.bin rfl rfl rfl rfl rfl ?_ | refine Wk.un rfl rfl rfl rfl ?_ | refine Wk.extract rfl rfl rfl rfl ?_ | refine Wk.fa rfl rfl rfl rfl rfl rfl rfl ?_ | refine Wk.conv rfl rfl rfl (IntKind.wrap_u8 _) rfl rfl rfl ?_ | refine Wk.condT rfl ?_ | refine Wk.condF rfl ?_ | refine Wk.exit rfl ?_))
 refine Wk.bs rfl rfl rfl rfl rfl rfl rfl fun b => ?_
 (repeat (first | refine Wk.seq ?_ | refine Wk.seqr (by kernel_rfl) ?_ | refine Wk.rnil ?_ | refine Wk.move rfl rfl rfl ?_ | refine Wk.assign rfl rfl rfl ?_ | refine Wk.block ?_ | refine Wk.blk ?_ | refine Wk.skip ?_ | refine Wk.pickT rfl rfl rfl rfl ?_ | refine Wk.pickF rfl rfl rfl rfl ?_ | refine Wk.skipd rfl rfl ?_ | refine Wk.skip0 rfl ?_ | refine Wk.len rfl rfl rfl rfl rfl rfl ?_ | refine Wk.lenStr rfl rfl rfl rfl rfl rfl ?_ | refine Wk.lenSl rfl (by assumption) rfl rfl rfl rfl rfl ?_ | refine Wk.add rfl rfl (by omega) rfl rfl ?_ | refine Wk.sub rfl rfl (by omega) rfl rfl ?_ | refine Wk.mul rfl rfl (by omega) rfl rfl ?_ | refine Wk.quo rfl rfl (by omega) rfl rfl ?_ | refine Wk.rem rfl rfl (by omega) rfl rfl ?_ | refine Wk.bin rfl rfl rfl rfl rfl ?_ | refine Wk.un rfl rfl rfl rfl ?_ | refine Wk.extract rfl rfl rfl rfl ?_ | refine Wk.fa rfl rfl rfl rfl rfl rfl rfl ?_ | refine Wk.conv rfl rfl rfl (IntKind.wrap_u8 _) rfl rfl rfl ?_ | refine Wk.condT rfl ?_ | refine Wk.condF rfl ?_ | refine Wk.exit rfl ?_))
 refine Wk.alter (C := [ol 1 (.slice (some ⟨b, 0, none⟩) 4 4) 4 (by8 (four a))]) (by (first | exact Rem.head | exact Rem.tail (Rem.head) | exact Rem.tail (Rem.tail (Rem.head)) | exact Rem.tail (Rem.tail (Rem.tail (Rem.head))) | exact Rem.tail (Rem.tail (Rem.tail (Rem.tail (Rem.head)))) | exact Rem.tail (Rem.tail (Rem.tail (Rem.tail (Rem.tail (Rem.head))))) | exact Rem.tail (Rem.tail (Rem.tail (Rem.tail (Rem.tail (Rem.tail (Rem.head)))))) | exact Rem.tail (Rem.tail (Rem.tail (Rem.tail (Rem.tail (Rem.tail (Rem.tail (Rem.head))))))) | exact Rem.tail (Rem.tail (Rem.tail (Rem.tail (Rem.tail (Rem.tail (Rem.tail (Rem.tail (Rem.head)))))))))) (fun s h => ?_) ?_
 ·refine ol_of_pt (g := 0) rfl (.inl rfl) (okCells_by8 _) ?_
  simp only [by8, four, List.map]
  have e1 : a.fdiv 16777216 = a / 16777216 := Int.fdiv_eq_ediv_of_nonneg _ (by decide)
  have e2 : a.fdiv 65536 = a / 65536 := Int.fdiv_eq_ediv_of_nonneg _ (by decide)
  have e3 : a.fdiv 256 = a / 256 := Int.fdiv_eq_ediv_of_nonneg _ (by decide)
  rw [← e1, ← e2, ← e3]
  exact h
 ·refine Wk.ret ?_
  exact ⟨_, Rs.tmp rfl Rs.nil, _, Sub.refl _, rfl, rfl⟩
end Go.Proofs.J
namespace Go.Proofs.J
attribute [local irreducible] Go.Ev.Wk
open Go.Ev Go
set_option linter.unusedVariables false
theorem grow {Z : Zone} (k : Nat) (hk : k ≤ 1000000000) : Cz M (.func (.func 202) #[] #[]) [.slice none 0 0, .int .i64 k] Z [] (fun v Z' A' => Z = Z' ∧ A' = [ol 1 v 0 []]) := by
 refine Cz.fn (f := Tryz.f202) (by kernel_rfl) rfl rfl rfl _ rfl ?_
 (repeat refine goS ?_)
 refine Wk.v rfl rfl rfl (Rd.capNil rfl rfl rfl rfl) ?_
 (repeat refine goS ?_)
 refine Wk.cond rfl (fun hc => ?_) (fun hc => ?_)
 ·have hk0 : 0 < k := by simp at hc; omega
  (repeat refine goS ?_)
  refine Wk.v rfl rfl rfl (Rd.capNil rfl rfl rfl rfl) ?_
  refine Wk.v rfl rfl rfl (Rd.sliceNil (l := 0) (h := 0) (m := 0) rfl rfl rfl rfl rfl rfl rfl rfl rfl rfl) ?_
  (repeat refine goS ?_)
  refine Wk.e rfl rfl rfl (Ef.append0 k rfl rfl rfl rfl rfl rfl rfl (by omega) hk0 rfl rfl (by omega) (by omega) fun b => ⟨PnAll.nil, ?_⟩)
  (repeat refine goS ?_)
  refine Wk.v (v := .slice (some ⟨b, 0, none⟩) 0 k) rfl rfl rfl (Rd.slice (b := b) (off := 0) (es := 1) (l := 0) (h := 0) (m := k) rfl rfl rfl rfl rfl rfl rfl rfl rfl ?_ has (.inr rfl)) ?_
  ·simp [abounds]
  (repeat refine goS ?_)
  refine Wk.alter (C := [ol 1 (.slice (some ⟨b, 0, none⟩) 0 k) 0 []]) rem (fun s h => ?_) ?_
  ·exact Sat.one (.inr (.inr ⟨b, 1, k, _, rfl, Nat.zero_le _, by rw [repCells_length]; rfl, by simp, .inr rfl, okCells_rep rfl _, h⟩))
  refine Wk.ret ?_
  exact ⟨_, Rs.tmp rfl Rs.nil, _, Sub.refl _, rfl, rfl⟩
 ·(repeat refine goS ?_)
  refine Wk.olNil 1 ?_
  refine Wk.ret ?_
  exact ⟨_, Rs.tmp rfl Rs.nil, _, Sub.refl _, rfl, rfl⟩
end Go.Proofs.J
namespace Go.Proofs.J
open Go.Ev Go
def Bys (Z : Zone) (v : Value) (xss : List (List Int)) : Prop := ∃ us, Sl Z 1 v xss.length us ∧ All2 (fun u xs => Sl Z 1 u xs.length (by8 xs)) us xss
theorem Bys.mono {Z Z' : Zone} {v : Value} {xss : List (List Int)} (e : Ext Z Z') (h : Bys Z v xss) : Bys Z' v xss := let ⟨us, h1, h2⟩ := h; ⟨us, h1.mono e, h2.imp fun _ _ q => q.mono e⟩
theorem flat_take (xss : List (List Int)) (j : Nat) (h : j < xss.length) : (xss.take (j + 1)).flatten = (xss.take j).flatten ++ xss[j] := by
 rw [List.take_succ_eq_append_getElem h, List.flatten_append, List.flatten_cons, List.flatten_nil, List.append_nil]
theorem flat_le (xss : List (List Int)) (j : Nat) : (xss.take j).flatten.length ≤ xss.flatten.length := by
 conv => rhs; rw [← List.take_append_drop j xss]
 rw [List.flatten_append, List.length_append]; omega
theorem by8_append (a b : List Int) : by8 (a ++ b) = by8 a ++ by8 b := by simp [by8]
theorem by8_length (a : List Int) : (by8 a).length = a.length := by simp [by8]
theorem concat {Z : Zone} {v : Value} {xss : List (List Int)} (h : Bys Z v xss) (hb : xss.flatten.length ≤ 1000000) (hm : xss.length ≤ 1000000) :
  Cz M (.func (.func 142) #[] #[]) [v] Z [] (fun v' Z' A' => Z = Z' ∧ A' = [ol 1 v' xss.flatten.length (by8 xss.flatten)]) := by
 obtain ⟨us, h1, h2⟩ := h
 have hul : us.length = xss.length := h2.length
 refine Cz.fn (f := Tryz.f142) (by kernel_rfl) rfl rfl rfl _ rfl ?_
 (repeat refine goS ?_)
 refine Wk.loop (fun mm L Z' A' => ∃ j, j ≤ xss.length ∧ mm = xss.length - j ∧ Z = Z' ∧ A' = [] ∧ Kp L [(0, v), (3, .int .i64 (xss.take j).flatten.length), (9, v), (10, .int .i64 xss.length), (11, .int .i64 j)]) xss.length ⟨0, by omega, rfl, rfl, rfl, rfl, rfl, rfl, rfl, rfl, trivial⟩ ?_
 rintro mm L Z' A' hz ⟨j, hj, rfl, rfl, rfl, hk⟩
 refine Wk.kp hk ?_
 clear hk hz
 (repeat refine goS ?_)
 refine Wk.cond rfl (fun hc => ?_) (fun hc => ?_)
 ·have hlt : j < xss.length := by simp at hc; omega
  obtain ⟨u, e1, e2⟩ := h2.getElem hlt
  have hs := flat_take xss j hlt
  have hle := flat_le xss (j + 1)
  rw [hs, List.length_append] at hle
  (repeat refine goS ?_)
  refine Wk.iaSl j h1 rfl rfl rfl rfl rfl rfl rfl hlt (getCells_one (by simpa using e1)) fun b off hp => ?_
  refine Wk.loadP0 rfl rfl (by assumption) rfl rfl rfl rfl ?_
  (repeat refine goS ?_)
  refine Wk.inv ⟨_, by omega, j + 1, hlt, rfl, rfl, rfl, rfl, ?_, rfl, rfl, rfl, trivial⟩
  exact eqI (by rw [hs, List.length_append]; omega)
 ·have hjm : j = xss.length := by simp at hc; omega
  subst hjm
  have ht : xss.take xss.length = xss := List.take_length
  (repeat refine goS ?_)
  refine Wk.call rfl rfl (Spl.none _) (grow (xss.take xss.length).flatten.length (by rw [ht]; omega)) rfl rfl rfl ?_
  rintro v6 Z' A' hz ⟨rfl, rfl⟩
  (repeat refine goS ?_)
  refine Wk.loop (fun mm L Z' A' => ∃ j v6, j ≤ xss.length ∧ mm = xss.length - j ∧ Z = Z' ∧ A' = [ol 1 v6 (xss.take j).flatten.length (by8 (xss.take j).flatten)] ∧ Kp L [(6, v6), (25, v), (26, .int .i64 xss.length), (27, .int .i64 j)]) xss.length ⟨0, v6, by omega, rfl, rfl, rfl, rfl, rfl, rfl, rfl, trivial⟩ ?_
  rintro mm L Z' A' hz ⟨j, v6, hj, rfl, rfl, rfl, hk⟩
  refine Wk.kp hk ?_
  clear hk hz
  (repeat refine goS ?_)
  refine Wk.cond rfl (fun hc => ?_) (fun hc => ?_)
  ·have hlt : j < xss.length := by simp at hc; omega
   obtain ⟨u, e1, e2⟩ := h2.getElem hlt
   have hs := flat_take xss j hlt
   have hle := flat_le xss (j + 1)
   rw [hs, List.length_append] at hle
   (repeat refine goS ?_)
   refine Wk.iaSl j h1 rfl rfl rfl rfl rfl rfl rfl hlt (getCells_one (by simpa using e1)) fun b off hp => ?_
   refine Wk.loadP0 rfl rfl (by assumption) rfl rfl rfl rfl ?_
   (repeat refine goS ?_)
   refine Wk.append rfl rfl rfl rfl rfl rfl rfl rfl rem (Src.sl e2) rfl (okCells_by8 _) (by rw [by8_length]; omega) (by omega) (by omega) rfl rfl rfl fun v6 => ?_
   (repeat refine goS ?_)
   refine Wk.inv ⟨_, by omega, j + 1, v6, hlt, rfl, rfl, ?_, rfl, rfl, rfl, rfl, trivial⟩
   rw [hs, List.length_append, by8_append]
  ·have hjm : j = xss.length := by simp at hc; omega
   subst hjm
   (repeat refine goS ?_)
   refine Wk.ret ?_
   exact ⟨_, Rs.tmp rfl Rs.nil, _, Sub.refl _, rfl, by rw [ht]; rfl⟩
end Go.Proofs.J
namespace Go.Proofs.J
attribute [local irreducible] Go.Ev.Wk
open Go.Ev Go
set_option linter.unusedVariables false
def IsChunk (Z : Zone) (fv v : Value) (n : Int) : Prop := ∃ b2 b3, fv = .func (.func 201) #[] ⟨[.pointer (some ⟨b2, 0, none⟩), .pointer (some ⟨b3, 0, none⟩)]⟩ ∧ Pz Z b2 0 [v] ∧ Pz Z b3 0 [.int .i64 n]
theorem Pz.of {Z : Zone} {b : Nat} {cs : List Value} {wr : Bool} {g : Nat} (h : Z b = some (.cells cs wr g)) : Pz Z b 0 cs := ⟨cs, wr, g, h, getCells_all cs⟩
theorem chunk {Z : Zone} {v : Value} {m : Nat} {vs : List Value} (h : Sl Z 1 v m vs) : Cz M (.func (.func 141) #[] #[]) [v, .int .i64 21] Z [] (fun fv Z' A' => A' = [] ∧ IsChunk Z' fv v 21) := by
 refine Cz.fn (f := Tryz.f141) (by kernel_rfl) rfl rfl rfl _ rfl ?_
 (repeat refine goS ?_)
 refine Wk.boxS rfl rfl rfl h.cellsL fun b2 => ?_
 refine Wk.boxS rfl rfl rfl rfl fun b3 => ?_
 (repeat refine goS ?_)
 refine Wk.loadL rfl rfl has rfl rfl rfl rfl ?_
 (repeat refine goS ?_)
 refine Wk.mkf rfl rfl rfl rfl ?_
 (repeat refine goS ?_)
 refine Wk.freeze rem fun Z1 e1 hb3 => ?_
 refine Wk.freeze rem fun Z2 e2 hb2 => ?_
 refine Wk.ret ?_
 exact ⟨_, Rs.tmp rfl Rs.nil, _, Sub.refl _, rfl, b2, b3, rfl, Pz.of hb2, (Pz.of hb3).mono e2⟩
def part (bs : List Int) (k : Nat) : List Int := (bs.drop (21 * k)).take 21
def many (bs : List Int) : Nat := (bs.length + 20) / 21
def Yields (Z : Zone) (fv : Value) (N : Nat) (elem : Nat → List Int) : Prop := ∀ (Z0 : Zone) (y : Value) (A : List SA) (J : Nat → Zone → List SA → Prop), Ext Z Z0 → J 0 Z0 A →
 (∀ k Z1 A1 u, Ext Z0 Z1 → k < N → J k Z1 A1 → Sl Z1 1 u (elem k).length (by8 (elem k)) → Cz M y [u] Z1 A1 (fun v' Z' A' => v' = .bool true ∧ J (k + 1) Z' A')) → Cz M fv [y] Z0 A (fun _ Z' A' => J N Z' A')
theorem by8_drop (a : List Int) (i : Nat) : (by8 a).drop i = by8 (a.drop i) := by simp [by8, List.map_drop]
theorem by8_take (a : List Int) (i : Nat) : (by8 a).take i = by8 (a.take i) := by simp [by8, List.map_take]
theorem chunkSeq {Z : Zone} {v fv : Value} {bs : List Int} (hs : Sl Z 1 v bs.length (by8 bs)) (hb : bs.length ≤ 1000000) (hf : IsChunk Z fv v 21) : Yields Z fv (many bs) (part bs) := by
 intro Z0 y A J hz0 h0 hy
 obtain ⟨b2, b3, rfl, p2, p3⟩ := hf
 have hs0 := hs.mono hz0
 have p20 := p2.mono hz0
 have p30 := p3.mono hz0
 have hm : ∀ k, k < many bs ↔ 21 * k < bs.length := fun k => by unfold many; omega
 refine Cz.fn (f := Tryz.f201) (by kernel_rfl) rfl rfl rfl _ rfl ?_
 (repeat refine goS ?_)
 refine Wk.loop (fun mm L Z' A' => ∃ k, k ≤ many bs ∧ mm = many bs - k ∧ Ext Z0 Z' ∧ J k Z' A' ∧ Kp L [(0, y), (1, .pointer (some ⟨b2, 0, none⟩)), (2, .pointer (some ⟨b3, 0, none⟩)), (4, .int .i64 ((21 * k : Nat) : Int))]) (many bs) ⟨0, by omega, rfl, Ext.refl _, h0, rfl, rfl, rfl, rfl, trivial⟩ ?_
 rintro mm L Z' A' - ⟨k, hk, rfl, hz, hJ, hkp⟩
 refine Wk.kp hkp ?_
 clear hkp
 have hs1 := hs0.mono hz
 have p21 := p20.mono hz
 have p31 := p30.mono hz
 have hm1 := hm k
 (repeat refine goS ?_)
 refine Wk.loadP0 rfl rfl (by assumption) rfl rfl rfl rfl ?_
 (repeat refine goS ?_)
 refine Wk.cond rfl (fun hc => ?_) (fun hc => ?_)
 ·have hlt : 21 * k < bs.length := by simp at hc; omega
  (repeat refine goS ?_)
  refine Wk.drawr (ms := [0, 0, 0, 6, 14, 31, 63]) (l := [0, 1, 2, 3, 4, 5, 6]) (by kernel_rfl) (by kernel_rfl) (by kernel_rfl) rfl ?_
  refine Wk.loadP0 rfl rfl (by assumption) rfl rfl rfl rfl ?_
  refine Wk.loadP0 rfl rfl (by assumption) rfl rfl rfl rfl ?_
  (repeat refine goS ?_)
  refine Wk.sliceSl (l := 21 * k) (h := bs.length) hs1 rfl rfl rfl rfl rfl rfl rfl rfl rfl rfl rfl ⟨rfl, rfl, by omega, Nat.le_refl _, trivial⟩ fun v16 h16 => ?_
  (repeat refine goS ?_)
  refine Wk.min rfl rfl rfl rfl rfl ?_
  refine Wk.tellr 18 (.int .i64 ((min 21 (bs.length - 21 * k) : Nat) : Int)) rfl (congrArg (Value.int .i64) (by split <;> omega)) ?_
  (repeat refine goS ?_)
  refine Wk.loadP0 rfl rfl (by assumption) rfl rfl rfl rfl ?_
  (repeat refine goS ?_)
  refine Wk.sliceSl (l := 21 * k) (h := 21 * k + min 21 (bs.length - 21 * k)) (nm := some (21 * k + min 21 (bs.length - 21 * k))) (nh := some (21 * k + min 21 (bs.length - 21 * k))) hs1 rfl rfl rfl rfl rfl rfl rfl rfl (asNatI rfl) (asNatI (by omega)) (asNatI (by omega)) ⟨rfl, rfl, by omega, by omega, by omega, by omega, rfl⟩ fun u hu => ?_
  have hpart : ((by8 bs).drop (21 * k * 1)).take ((21 * k + min 21 (bs.length - 21 * k) - 21 * k) * 1) = by8 (part bs k) := by
   rw [Nat.mul_one, Nat.mul_one, Nat.add_sub_cancel_left, by8_drop, by8_take, part]
   congr 1
   rw [Nat.min_def]; split
   ·rfl
   ·rw [List.take_of_length_le (by simp), List.take_of_length_le (by simp; omega)]
  rw [hpart] at hu
  have hlen : (part bs k).length = 21 * k + min 21 (bs.length - 21 * k) - 21 * k := by simp [part]
  rw [← hlen] at hu
  (repeat refine goS ?_)
  refine Wk.call rfl rfl (Spl.all _) (hy k Z' A' u hz (by omega) hJ hu) rfl rfl rfl ?_
  rintro v' Z2 A2 hz2 ⟨rfl, hJ2⟩
  rw [List.append_nil]
  (repeat refine goS ?_)
  refine Wk.loadP0 rfl rfl (p31.mono hz2) rfl rfl rfl rfl ?_
  (repeat refine goS ?_)
  exact Wk.inv ⟨_, by omega, k + 1, by omega, rfl, hz.trans hz2, hJ2, rfl, rfl, rfl, eqI (by omega), trivial⟩
 ·have : k = many bs := by simp at hc; omega
  subst this
  (repeat refine goS ?_)
  exact Wk.done ⟨_, Rs.nil, _, Sub.refl _, hJ⟩
theorem appendSeq {Z : Zone} {fv : Value} {N : Nat} {elem : Nat → List Int} (hN : N ≤ 1000000) (hy : Yields Z fv N elem) :
  Cz M (.func (.func 200) #[] #[]) [.slice none 0 0, fv] Z [] (fun v Z' A' => ∃ us, A' = [ol 1 v N us] ∧ All2 (fun u xs => Sl Z' 1 u xs.length (by8 xs)) us ((List.range N).map elem)) := by
 refine Cz.fn (f := Tryz.f200) (by kernel_rfl) rfl rfl rfl _ rfl ?_
 (repeat refine goS ?_)
 refine Wk.boxS rfl rfl rfl rfl fun b2 => ?_
 (repeat refine goS ?_)
 refine Wk.olNil 1 ?_
 refine Wk.range (fun _ _ _ => rfl) rfl fun l => ?_
 refine (hy Z _ _ (fun k Z' A' => ∃ vv us, A' = [lp l .ready none 200 13 [(6, fv), (4, .slice none 0 0), (2, .pointer (some ⟨b2, 0, none⟩)), (0, .slice none 0 0), (1, fv)] _ _ _, ol 1 vv k us, pt b2 (.cells [vv] true 0)] ∧ All2 (fun u xs => Sl Z' 1 u xs.length (by8 xs)) us ((List.range k).map elem)) (Ext.refl _) ⟨_, [], rfl, .nil⟩ ?_).mono ?_
 ·rintro k Z1 A1 u hz hk ⟨vv, us, rfl, hall⟩ hu
  refine Cz.yield (pend := none) Rem.head rfl (by simp) ?_
  (repeat refine goS ?_)
  refine Wk.done ⟨rfl, none, _, Rem.head, ?_⟩
  (repeat refine goS ?_)
  refine Wk.loadL rfl rfl has rfl rfl rfl rfl ?_
  (repeat refine goS ?_)
  refine Wk.bs (cs := [u]) rfl rfl rfl rfl rfl rfl (by simp [fillL, putAt, repCells, hu.cellsL]) fun b => ?_
  refine Wk.append (kk := 1) (new := [u]) rfl rfl rfl rfl rfl rfl rfl rfl rem (Src.lit has ?_) rfl ?_ rfl ?_ ?_ rfl rfl rfl fun v6 => ?_
  ·rfl
  ·have := hu.cellsL
   obtain ⟨a, c, rfl⟩ := hu.form
   rfl
  ·omega
  ·omega
  refine Wk.dropr (.keep (.drop (Sub.refl _))) ?_
  refine Wk.knowr (x := ol 1 v6 (k + 1) (us ++ [u])) rem (fun s h => ol.form h) ?_
  rintro ⟨a, c, rfl⟩
  refine Wk.store rfl rfl rfl rfl rfl (by repeat (first | exact Upd.head | apply Upd.tail)) rfl rfl rfl ?_
  (repeat refine goS ?_)
  refine Wk.done ⟨.busy, none, _, Rem.tail Rem.head, rfl, _, us ++ [u], rfl, ?_⟩
  rw [List.range_succ, List.map_append]
  exact hall.snoc hu
 ·rintro v Z' A' hz ⟨vv, us, rfl, hall⟩
  refine ⟨.ready, none, _, Rem.head, by simp, ?_⟩
  show Wk _ _ _ _ _ _ _ _ _
  (repeat refine goS ?_)
  refine Wk.loadL rfl rfl has rfl rfl rfl rfl ?_
  (repeat refine goS ?_)
  refine Wk.ret ?_
  exact ⟨_, Rs.tmp rfl Rs.nil, _, .keep (Sub.none _), _, rfl, hall⟩
theorem collect {Z : Zone} {fv : Value} {N : Nat} {elem : Nat → List Int} (hN : N ≤ 1000000) (hy : Yields Z fv N elem) :
  Cz M (.func (.func 140) #[] #[]) [fv] Z [] (fun v Z' A' => ∃ us, A' = [ol 1 v N us] ∧ All2 (fun u xs => Sl Z' 1 u xs.length (by8 xs)) us ((List.range N).map elem)) := by
 refine Cz.fn (f := Tryz.f140) (by kernel_rfl) rfl rfl rfl _ rfl ?_
 (repeat refine goS ?_)
 refine Wk.call rfl rfl (Spl.none _) (appendSeq hN hy) rfl rfl rfl ?_
 rintro v Z' A' hz ⟨us, rfl, hall⟩
 (repeat refine goS ?_)
 refine Wk.ret ?_
 exact ⟨_, Rs.tmp rfl Rs.nil, _, Sub.refl _, us, rfl, hall⟩
def blk (a : Int) (bs : List Int) (i : Nat) : List Int := four a ++ ([(i : Int) % 256, (many bs : Int) % 256, ((part bs i).length : Int) % 256] ++ (part bs i ++ (List.replicate (21 - (part bs i).length) 0 ++ four a)))
theorem part_le (bs : List Int) (i : Nat) : (part bs i).length ≤ 21 := by simp [part]; omega
theorem blk_len (a : Int) (bs : List Int) (i : Nat) : (blk a bs i).length = 32 := by
 have := part_le bs i
 simp [blk, four]; omega
theorem blocks {Z : Zone} {v : Value} {bs : List Int} (a : Int) (hs : Sl Z 1 v bs.length (by8 bs)) (hb : bs.length ≤ 1000000) :
  Cz M (.func (.func 87) #[] #[]) [.int .i64 a, v] Z [] (fun v Z' A' => ∃ us, (255 < many bs → v = .slice none 0 0 ∧ A' = []) ∧ (many bs ≤ 255 → A' = [ol 1 v (many bs) us] ∧ All2 (fun u xs => Sl Z' 1 u xs.length (by8 xs)) us ((List.range (many bs)).map (blk a bs)))) := by
 have hmb : many bs ≤ 1000000 := by unfold many; omega
 refine Cz.fn (f := Tryz.f87) (by kernel_rfl) rfl rfl rfl _ rfl ?_
 (repeat refine goS ?_)
 refine Wk.call rfl rfl (Spl.none _) (chunk hs) rfl rfl rfl ?_
 rintro fv Z1 A' hz1 ⟨rfl, hch⟩
 (repeat refine goS ?_)
 refine Wk.call rfl rfl (Spl.none _) (collect hmb (chunkSeq (hs.mono hz1) hb hch)) rfl rfl rfl ?_
 rintro v5 Z2 A' hz2 ⟨us, rfl, hall⟩
 refine Wk.olFreezer rem fun Z3 hz3 hs5 => ?_
 replace hall := hall.mono fun _ _ q => Sl.mono hz3 q
 (repeat refine goS ?_)
 refine Wk.cond rfl (fun hc => ?_) (fun hc => ?_)
 ·have : 255 < many bs := by simp at hc; omega
  (repeat refine goS ?_)
  refine Wk.ret ?_
  exact ⟨_, Rs.tmp rfl Rs.nil, _, Sub.refl _, [], fun _ => ⟨rfl, rfl⟩, fun h => by omega⟩
 have hm255 : many bs ≤ 255 := by simp at hc; omega
 (repeat refine goS ?_)
 refine Wk.olNil 1 ?_
 refine Wk.loop (fun mm L Z' A' => ∃ j v4 us', j ≤ many bs ∧ mm = many bs - j ∧ Ext Z3 Z' ∧ A' = [ol 1 v4 j us'] ∧ All2 (fun u xs => Sl Z' 1 u xs.length (by8 xs)) us' ((List.range j).map (blk a bs)) ∧
  Kp L [(0, .int .i64 a), (4, v4), (5, v5), (15, v5), (16, .int .i64 (many bs)), (17, .int .i64 j)]) (many bs) ⟨0, _, [], by omega, rfl, Ext.refl _, rfl, .nil, rfl, rfl, rfl, rfl, rfl, rfl, trivial⟩ ?_
 rintro mm L Z' A' - ⟨j, v4, us', hj, rfl, hz, rfl, hall', hk⟩
 refine Wk.kp hk ?_
 clear hk
 have hs5' := hs5.mono hz
 (repeat refine goS ?_)
 refine Wk.cond rfl (fun hc => ?_) (fun hc => ?_)
 ·have hlt : j < many bs := by simp at hc; omega
  obtain ⟨u, e1, e2⟩ := hall.getElem (i := j) (by simpa using hlt)
  simp only [List.getElem_map, List.getElem_range] at e2
  replace e2 := e2.mono hz
  have hp21 := part_le bs j
  (repeat refine goS ?_)
  refine Wk.iaSl j hs5' rfl rfl rfl rfl rfl rfl rfl hlt (getCells_one (by simpa using e1)) fun b off hp => ?_
  refine Wk.loadP0 rfl rfl (by assumption) rfl rfl rfl rfl ?_
  (repeat refine goS ?_)
  refine Wk.drawr (ms := [0, 1, 0, 4, 0, 16, 48, 0, 128, 384, 1020, 0, 0, 4096, 12288, 28672, 0, 65539, 262143, 524287, 1048575]) (l := [0, 2, 3, 4, 5, 6, 7, 8, 9, 10, 11, 12, 13, 14, 15, 16, 1, 17, 18, 19, 20]) (by kernel_rfl) (by kernel_rfl) (by kernel_rfl) rfl ?_
  (repeat refine goS ?_)
  refine Wk.bs rfl rfl rfl rfl rfl rfl rfl fun b32 => ?_
  (repeat refine goS ?_)
  refine Wk.mks (21 - (part bs j).length) (21 - (part bs j).length) rfl rfl rfl rfl rfl rfl (by omega) (by omega) (Nat.le_refl _) (by simp; omega) (by omega) fun b37 => ?_
  (repeat refine goS ?_)
  refine Wk.call rfl rfl (Spl.none _) (number a) rfl rfl rfl ?_
  rintro v23 Z' A' hz4 ⟨rfl, rfl⟩
  (repeat refine goS ?_)
  refine Wk.call rfl rfl (Spl.none _) (number a) rfl rfl rfl ?_
  rintro v39 Z' A' hz5 ⟨rfl, rfl⟩
  clear hz4 hz5
  refine Wk.olFreezer rem fun Z4 hz4 h39 => ?_
  refine Wk.olFreezer rem fun Z5 hz5 h23 => ?_
  refine Wk.freezer rem fun Z6 hz6 h37 => ?_
  refine Wk.freezer rem fun Z7 hz7 h32 => ?_
  replace h37 := hz7 _ _ h37
  replace h23 := h23.mono (hz6.trans hz7)
  replace h39 := h39.mono ((hz5.trans hz6).trans hz7)
  have e2' := e2.mono (((hz4.trans hz5).trans hz6).trans hz7)
  refine Wk.bs (cs := [v23, .slice (some ⟨b32, 0, none⟩) 3 3, u, .slice (some ⟨b37, 0, none⟩) (21 - (part bs j).length) (21 - (part bs j).length), v39]) rfl rfl rfl rfl rfl rfl (by simp [fillL, putAt, repCells, h23.cellsL, h39.cellsL, e2'.cellsL, cellsL_slice]) fun b40 => ?_
  refine Wk.freezer rem fun Z8 hz8 h40 => ?_
  have hbys : Bys Z8 (.slice (some ⟨b40, 0, none⟩) 5 5) [four a, [(j : Int) % 256, (many bs : Int) % 256, ((part bs j).length : Int) % 256], part bs j, List.replicate (21 - (part bs j).length) 0, four a] := by
   refine ⟨_, Sl.ofAll h40 rfl (.inl rfl), ?_⟩
   refine .cons (h23.mono hz8) (.cons ((Sl.ofAll (m := 3) h32 rfl (.inl rfl)).mono hz8) (.cons (e2'.mono hz8) (.cons ?_ (.cons (h39.mono hz8) .nil))))
   have := (Sl.ofAll (sz := 1) (m := 21 - (part bs j).length) h37 (by rw [repCells_length]; rfl) (.inl rfl)).mono hz8
   rw [List.length_replicate]
   have er : repCells [Value.int .u8 0] (21 - (part bs j).length) = by8 (List.replicate (21 - (part bs j).length) 0) := by
    generalize 21 - (part bs j).length = q
    induction q with
    | zero => rfl
    | succ q ih => simp only [repCells, ih, List.replicate_succ, by8, List.map_cons]; rfl
   rw [← er]; exact this
  have hfl : [four a, [(j : Int) % 256, (many bs : Int) % 256, ((part bs j).length : Int) % 256], part bs j, List.replicate (21 - (part bs j).length) 0, four a].flatten = blk a bs j := by simp [blk]
  have hbl := blk_len a bs j
  refine Wk.call rfl rfl (Spl.none _) (concat hbys (by rw [hfl]; omega) (by simp)) rfl rfl rfl ?_
  rintro v41 Z' A' hz9 ⟨rfl, rfl⟩
  rw [hfl, hbl]
  refine Wk.olFreezer rem fun Z9 hz9 h41 => ?_
  (repeat refine goS ?_)
  refine Wk.bs (cs := [v41]) rfl rfl rfl rfl rfl rfl (by simp [fillL, putAt, repCells, h41.cellsL]) fun b44 => ?_
  refine Wk.append (kk := 1) (new := [v41]) rfl rfl rfl rfl rfl rfl rfl rfl rem (Src.lit has rfl) rfl (by obtain ⟨_, _, rfl⟩ := h41.form; rfl) rfl (by omega) (by omega) rfl rfl rfl fun v45 => ?_
  refine Wk.dropr (.keep (Sub.none _)) ?_
  (repeat refine goS ?_)
  have hza : Ext Z' Z9 := ((((hz4.trans hz5).trans hz6).trans hz7).trans hz8).trans hz9
  refine Wk.inv ⟨_, by omega, j + 1, v45, us' ++ [v41], hlt, rfl, hz.trans hza, rfl, ?_, rfl, rfl, rfl, rfl, rfl, rfl, trivial⟩
  rw [List.range_succ, List.map_append]
  refine (hall'.mono fun _ _ q => q.mono hza).snoc ?_
  rw [hbl]; exact h41
 ·have : j = many bs := by simp at hc; omega
  subst this
  (repeat refine goS ?_)
  refine Wk.ret ?_
  exact ⟨_, Rs.tmp rfl Rs.nil, _, Sub.refl _, us', fun h => by omega, fun _ => ⟨rfl, hall'⟩⟩
def recOf (a : Int) (bs : List Int) : List (List Int) := (List.range (many bs)).map (blk a bs)
def errOf (a : Int) (bs : List Int) : Int := if ¬ (1 ≤ a ∧ a ≤ 2000000000) then 3 else if bs.length = 0 then 2 else if 255 < many bs then 5 else 0
def outB (a : Int) (bs : List Int) : List (List Int) := if errOf a bs = 0 then recOf a bs else []
def OutB (a : Int) (bs : List Int) (v : Value) (Z' : Zone) (A' : List SA) : Prop := ∃ w, v = .tuple ⟨[w, .int .i64 (errOf a bs)]⟩ ∧ A' = [] ∧ Bys Z' w (outB a bs)
theorem Bys.nil {Z : Zone} : Bys Z (.slice none 0 0) [] := ⟨[], Sl.nil, .nil⟩
theorem outB_err {a : Int} {bs : List Int} (h : errOf a bs ≠ 0) : outB a bs = [] := by simp [outB, h]
theorem Blocks {Z : Zone} {v : Value} {bs : List Int} (a : Int) (hs : Sl Z 1 v bs.length (by8 bs)) (hb : bs.length ≤ 1000000) :
  Cz M (.func (.func 32) #[] #[]) [.int .i64 a, v] Z [] (OutB a bs) := by
 have bad : ∀ {q : Int} {Z' : Zone}, errOf a bs = q → q ≠ 0 → OutB a bs (outOf [.slice none 0 0, .int .i64 q]) Z' [] := by
  intro q Z' e hq
  refine ⟨.slice none 0 0, ?_, rfl, ?_⟩
  ·rw [e]; rfl
  ·rw [outB_err (by rw [e]; exact hq)]; exact Bys.nil
 refine Cz.fn (f := Tryz.f32) (by kernel_rfl) rfl rfl rfl _ rfl ?_
 (repeat refine goS ?_)
 refine Wk.call rfl rfl (Spl.none _) (isNumber a) rfl rfl rfl ?_
 rintro v Z' A' hz ⟨rfl, rfl, rfl⟩
 (repeat refine goS ?_)
 refine Wk.cond rfl (fun hc => ?_) (fun hc => ?_)
 ·(repeat refine goS ?_)
  refine Wk.ret ?_
  exact ⟨_, Rs.tmp rfl (Rs.tmp rfl Rs.nil), _, Sub.refl _, bad (by simp [errOf]; intro _; simp at hc; omega) (by decide)⟩
 have hr : 1 ≤ a ∧ a ≤ 2000000000 := by simp at hc; exact hc
 (repeat refine goS ?_)
 refine Wk.cond rfl (fun hc => ?_) (fun hc => ?_)
 ·have h0 : bs.length = 0 := by simp at hc; simp [hc]
  (repeat refine goS ?_)
  refine Wk.ret ?_
  exact ⟨_, Rs.tmp rfl (Rs.tmp rfl Rs.nil), _, Sub.refl _, bad (by rw [errOf, if_neg (by simp; exact hr), if_pos h0]) (by decide)⟩
 have h0 : bs.length ≠ 0 := by simp at hc; simp [hc]
 (repeat refine goS ?_)
 refine Wk.call rfl rfl (Spl.none _) (blocks a hs hb) rfl rfl rfl ?_
 rintro w Z' A' hz ⟨us, k1, k2⟩
 by_cases hm : 255 < many bs
 ·obtain ⟨rfl, rfl⟩ := k1 hm
  (repeat refine goS ?_)
  refine Wk.ret ?_
  exact ⟨_, Rs.tmp rfl (Rs.tmp rfl Rs.nil), _, Sub.refl _, bad (by rw [errOf, if_neg (by simp; exact hr), if_neg h0, if_pos hm]) (by decide)⟩
 ·obtain ⟨rfl, hall⟩ := k2 (by omega)
  have he : errOf a bs = 0 := by rw [errOf, if_neg (by simp; exact hr), if_neg h0, if_neg hm]
  refine Wk.knowr (x := ol 1 w (many bs) us) rem (fun s h => ol.some h (by unfold many; omega)) ?_
  rintro ⟨b, c, rfl⟩
  (repeat refine goS ?_)
  refine Wk.olFreeze rem fun Z3 hz3 hw => ?_
  refine Wk.ret ?_
  refine ⟨_, Rs.tmp rfl (Rs.tmp rfl Rs.nil), _, Sub.refl _, .slice (some b) (many bs) c, ?_, rfl, us, ?_, ?_⟩
  ·rw [he]; rfl
  ·rw [outB, if_pos he, recOf, List.length_map, List.length_range]; exact hw
  ·rw [outB, if_pos he]; exact hall.mono fun _ _ q => q.mono hz3
theorem In {Z : Zone} (a b c : Int) : Cz M (.func (.func 64) #[] #[]) [.int .i64 a, .int .i64 b, .int .i64 c] Z [] (fun v Z' A' => v = .bool (decide (b ≤ a) && decide (a ≤ c)) ∧ Z = Z' ∧ A' = []) := by
 refine Cz.fn (f := Tryz.f64) (by kernel_rfl) rfl rfl rfl _ rfl ?_
 (repeat refine goS ?_)
 refine Wk.caser 10 rfl (fun h => ?_) (fun h => ?_)
 ·(repeat refine goS ?_)
  refine Wk.ret ?_
  refine ⟨_, Rs.tmp rfl Rs.nil, _, Sub.refl _, ?_, rfl, rfl⟩
  simp at h
  simp [h, outOf]
 ·(repeat refine goS ?_)
  refine Wk.ret ?_
  refine ⟨_, Rs.tmp rfl Rs.nil, _, Sub.refl _, ?_, rfl, rfl⟩
  simp at h
  simp [outOf]
  omega
theorem four107 {Z : Zone} (a : Int) (h0 : 0 ≤ a) (h1 : a ≤ 2000000000) : Cz M (.func (.func 144) #[] #[]) [.int .i64 a] Z [] (fun v Z' A' => Z = Z' ∧ A' = [ol 1 v 4 (by8 (four a))]) := by
 have e1 : a / 16777216 % 256 = a / 16777216 % 256 := rfl
 refine Cz.fn (f := Tryz.f144) (by kernel_rfl) rfl rfl rfl _ rfl ?_
 (repeat refine goS ?_)
 refine Wk.bs rfl rfl rfl rfl rfl rfl rfl fun b => ?_
 (repeat refine goS ?_)
 refine Wk.alter (C := [ol 1 (.slice (some ⟨b, 0, none⟩) 4 4) 4 (by8 (four a))]) rem (fun s h => ?_) ?_
 ·refine ol_of_pt (g := 0) rfl (.inl rfl) (okCells_by8 _) ?_
  simp only [by8, four, List.map]
  simp only [Int.emod_emod] at h
  exact h
 ·refine Wk.ret ?_
  exact ⟨_, Rs.tmp rfl Rs.nil, _, Sub.refl _, rfl, rfl⟩
theorem refBlocks {Z : Zone} {v : Value} {bs : List Int} (a : Int) (hs : Sl Z 1 v bs.length (by8 bs)) (hb : bs.length ≤ 1000000) :
  Cz M (.func (.func 123) #[] #[]) [.int .i64 a, v] Z [] (OutB a bs) := by
 have bad : ∀ {q : Int} {Z' : Zone}, errOf a bs = q → q ≠ 0 → OutB a bs (outOf [.slice none 0 0, .int .i64 q]) Z' [] := by
  intro q Z' e hq
  refine ⟨.slice none 0 0, ?_, rfl, ?_⟩
  ·rw [e]; rfl
  ·rw [outB_err (by rw [e]; exact hq)]; exact Bys.nil
 refine Cz.fn (f := Tryz.f123) (by kernel_rfl) rfl rfl rfl _ rfl ?_
 (repeat refine goS ?_)
 refine Wk.call rfl rfl (Spl.none _) (In a 1 2000000000) rfl rfl rfl ?_
 rintro v' Z' A' hz ⟨rfl, rfl, rfl⟩
 (repeat refine goS ?_)
 refine Wk.cond rfl (fun hc => ?_) (fun hc => ?_)
 ·(repeat refine goS ?_)
  refine Wk.ret ?_
  exact ⟨_, Rs.tmp rfl (Rs.tmp rfl Rs.nil), _, Sub.refl _, bad (by simp [errOf]; intro _; simp at hc; omega) (by decide)⟩
 have hr : 1 ≤ a ∧ a ≤ 2000000000 := by simp at hc; exact hc
 (repeat refine goS ?_)
 refine Wk.cond rfl (fun hc => ?_) (fun hc => ?_)
 ·have h0 : bs.length = 0 := by simp at hc; simp [hc]
  (repeat refine goS ?_)
  refine Wk.ret ?_
  exact ⟨_, Rs.tmp rfl (Rs.tmp rfl Rs.nil), _, Sub.refl _, bad (by rw [errOf, if_neg (by simp; exact hr), if_pos h0]) (by decide)⟩
 have h0 : bs.length ≠ 0 := by simp at hc; simp [hc]
 have hmany : ((bs.length : Int) + 20) / 21 = (many bs : Int) := by unfold many; omega
 (repeat refine goS ?_)
 refine Wk.cond rfl (fun hc => ?_) (fun hc => ?_)
 ·have hm : 255 < many bs := by rw [hmany] at hc; simp at hc; omega
  (repeat refine goS ?_)
  refine Wk.ret ?_
  exact ⟨_, Rs.tmp rfl (Rs.tmp rfl Rs.nil), _, Sub.refl _, bad (by rw [errOf, if_neg (by simp; exact hr), if_neg h0, if_pos hm]) (by decide)⟩
 have hm255 : many bs ≤ 255 := by rw [hmany] at hc; simp at hc; omega
 have he : errOf a bs = 0 := by rw [errOf, if_neg (by simp; exact hr), if_neg h0, if_neg (by omega)]
 refine Wk.tell 6 (.int .i64 (many bs)) rfl (congrArg _ hmany) ?_
 (repeat refine goS ?_)
 refine Wk.olNil 1 ?_
 refine Wk.loop (fun mm L Z' A' => ∃ j v7 us', j ≤ many bs ∧ mm = many bs - j ∧ Ext Z Z' ∧ A' = [ol 1 v7 j us'] ∧ All2 (fun u xs => Sl Z' 1 u xs.length (by8 xs)) us' ((List.range j).map (blk a bs)) ∧
  Kp L [(0, .int .i64 a), (1, v), (6, .int .i64 (many bs)), (7, v7), (8, .int .i64 j)]) (many bs) ⟨0, _, [], by omega, rfl, Ext.refl _, rfl, .nil, rfl, rfl, rfl, rfl, rfl, trivial⟩ ?_
 rintro mm L Z' A' - ⟨j, v7, us', hj, rfl, hz, rfl, hall', hk⟩
 refine Wk.kp hk ?_
 clear hk hc
 have hs' := hs.mono hz
 (repeat refine goS ?_)
 refine Wk.cond rfl (fun hc => ?_) (fun hc => ?_)
 ·have hlt : j < many bs := by simp at hc; omega
  have hlt2 : 21 * j < bs.length := by unfold many at hlt; omega
  have hp21 := part_le bs j
  (repeat refine goS ?_)
  refine Wk.min rfl rfl rfl rfl rfl ?_
  refine Wk.tellr 36 (.int .i64 ((min bs.length (21 * (j + 1)) : Nat) : Int)) rfl (congrArg (Value.int .i64) (by split <;> omega)) ?_
  refine Wk.sliceSl (l := 21 * j) (h := min bs.length (21 * (j + 1))) (nh := some (min bs.length (21 * (j + 1)))) hs' rfl rfl rfl rfl rfl rfl rfl rfl (asNatI (by omega)) (asNatI rfl) rfl ⟨rfl, rfl, by omega, by omega, trivial⟩ fun u hu => ?_
  have hpart : ((by8 bs).drop (21 * j * 1)).take ((min bs.length (21 * (j + 1)) - 21 * j) * 1) = by8 (part bs j) := by
   rw [Nat.mul_one, Nat.mul_one, by8_drop, by8_take, part]
   congr 1
   rcases Nat.le_total (21 * (j + 1)) bs.length with h | h
   ·rw [Nat.min_eq_right h]; congr 1; omega
   ·rw [Nat.min_eq_left h, List.take_of_length_le (by simp), List.take_of_length_le (by simp; omega)]
  rw [hpart] at hu
  have hlen : (part bs j).length = min bs.length (21 * (j + 1)) - 21 * j := by simp [part]; omega
  rw [← hlen] at hu
  clear hpart hlen
  (repeat refine goS ?_)
  refine Wk.call rfl rfl (Spl.none _) (four107 a (by omega) (by omega)) rfl rfl rfl ?_
  rintro v39 Z1 A1 hz1 ⟨rfl, rfl⟩
  (repeat refine goS ?_)
  refine Wk.bs rfl rfl rfl rfl rfl rfl rfl fun b47 => ?_
  refine Wk.append (kk := 3) (new := by8 [(j : Int) % 256, (many bs : Int) % 256, ((part bs j).length : Int) % 256]) rfl rfl rfl rfl rfl rfl rfl rfl rem (Src.lit has rfl) rfl rfl rfl (by omega) (by omega) rfl rfl rfl fun v48 => ?_
  (repeat refine goS ?_)
  refine Wk.append rfl rfl rfl rfl rfl rfl rfl rfl rem (Src.sl hu) rfl (okCells_by8 _) (by rw [by8_length]; omega) (by omega) (by omega) rfl rfl rfl fun v51 => ?_
  have hu' := hu.mono hz1
  (repeat refine goS ?_)
  refine Wk.drop (.keep (.drop (Sub.refl _))) ?_
  generalize hpre : by8 (four a) ++ by8 [(j : Int) % 256, (many bs : Int) % 256, ((part bs j).length : Int) % 256] ++ by8 (part bs j) = pre
  refine Wk.loop (fun mm L Z'' A' => ∃ q v10, q ≤ 21 - (part bs j).length ∧ mm = 21 - (part bs j).length - q ∧ Z' = Z'' ∧ A' = [ol 1 v10 (4 + 3 + (part bs j).length + q) (pre ++ by8 (List.replicate q 0)), ol 1 v7 j us'] ∧
   Kp L [(0, .int .i64 a), (1, v), (6, .int .i64 (many bs)), (7, v7), (8, .int .i64 j), (10, v10)]) (21 - (part bs j).length) ⟨0, _, by omega, rfl, rfl, by simp [by8], rfl, rfl, rfl, rfl, rfl, rfl, trivial⟩ ?_
  rintro mm L Z'' A' - ⟨q, v10, hq, rfl, rfl, rfl, hk⟩
  refine Wk.kp hk ?_
  clear hk hc
  (repeat refine goS ?_)
  refine Wk.lenOl rfl Rem.head rfl rfl rfl rfl rfl ?_
  (repeat refine goS ?_)
  refine Wk.cond rfl (fun hc => ?_) (fun hc => ?_)
  ·have hlt' : q < 21 - (part bs j).length := by simp at hc; omega
   (repeat refine goS ?_)
   refine Wk.bs rfl rfl rfl rfl rfl rfl rfl fun b56 => ?_
   refine Wk.append (kk := 1) (new := [.int .u8 0]) rfl rfl rfl rfl rfl rfl rfl rfl rem (Src.lit has rfl) rfl rfl rfl (by omega) (by omega) rfl rfl rfl fun v57 => ?_
   refine Wk.dropr (.keep (.drop (Sub.refl _))) ?_
   (repeat refine goS ?_)
   refine Wk.inv ⟨_, by omega, q + 1, v57, by omega, rfl, rfl, ?_, rfl, rfl, rfl, rfl, rfl, rfl, trivial⟩
   rw [List.replicate_succ', by8_append, ← List.append_assoc]
   rfl
  ·have : q = 21 - (part bs j).length := by simp at hc; omega
   subst this
   have hn : 4 + 3 + (part bs j).length + (21 - (part bs j).length) = 28 := by omega
   rw [hn]
   (repeat refine goS ?_)
   refine Wk.call rfl rfl (Spl.none _) (four107 a (by omega) (by omega)) rfl rfl rfl ?_
   rintro v61 Z2 A2 hz2 ⟨rfl, rfl⟩
   refine Wk.append rfl rfl rfl rfl rfl rfl rfl rfl (Rem.tail Rem.head) (Src.ol Rem.head) rfl (okCells_by8 _) rfl (by omega) (by omega) rfl rfl rfl fun v62 => ?_
   refine Wk.olFreezer Rem.head fun Z3 hz3 h62 => ?_
   refine Wk.bs (cs := [v62]) rfl rfl rfl rfl rfl rfl (by simp [fillL, putAt, repCells, h62.cellsL]) fun b63 => ?_
   refine Wk.append (kk := 1) (new := [v62]) rfl rfl rfl rfl rfl rfl rfl rfl rem (Src.lit has rfl) rfl (by obtain ⟨_, _, rfl⟩ := h62.form; rfl) rfl (by omega) (by omega) rfl rfl rfl fun v64 => ?_
   refine Wk.dropr (.keep (Sub.none _)) ?_
   (repeat refine goS ?_)
   refine Wk.inv ⟨_, by omega, j + 1, v64, us' ++ [v62], hlt, rfl, hz.trans (hz1.trans (hz2.trans hz3)), rfl, ?_, rfl, rfl, rfl, rfl, rfl, trivial⟩
   rw [List.range_succ, List.map_append]
   refine (hall'.mono fun _ _ q => q.mono (hz1.trans (hz2.trans hz3))).snoc ?_
   rw [blk_len]
   have : pre ++ by8 (List.replicate (21 - (part bs j).length) 0) ++ by8 (four a) = by8 (blk a bs j) := by
    rw [← hpre]; simp [blk, by8]
   rw [← this]
   exact h62
 ·have : j = many bs := by simp at hc; omega
  subst this
  (repeat refine goS ?_)
  refine Wk.olFreeze rem fun Z3 hz3 hw => ?_
  refine Wk.ret ?_
  refine ⟨_, Rs.tmp rfl (Rs.tmp rfl Rs.nil), _, Sub.refl _, v7, ?_, rfl, us', ?_, ?_⟩
  ·rw [he]; rfl
  ·rw [outB, if_pos he, recOf, List.length_map, List.length_range]; exact hw
  ·rw [outB, if_pos he]; exact hall'.mono fun _ _ q => q.mono hz3
theorem sameBlocks {Z : Zone} {v1 v2 : Value} {xss : List (List Int)} (h1 : Bys Z v1 xss) (h2 : Bys Z v2 xss) (hm : xss.length ≤ 1000000) :
  Cz M (.func (.func 93) #[] #[]) [v1, v2] Z [] (fun v Z' A' => v = .bool true ∧ Z = Z' ∧ A' = []) := by
 obtain ⟨us, s1, a1⟩ := h1
 obtain ⟨ws, s2, a2⟩ := h2
 refine Cz.fn (f := Tryz.f93) (by kernel_rfl) rfl rfl rfl _ rfl ?_
 (repeat refine goS ?_)
 refine Wk.cond rfl (fun hc => absurd hc (by simp)) (fun _ => ?_)
 (repeat refine goS ?_)
 refine Wk.loop (fun mm L Z' A' => ∃ j, j ≤ xss.length ∧ mm = xss.length - j ∧ Z = Z' ∧ A' = [] ∧ Kp L [(0, v1), (1, v2), (5, .int .i64 j)]) xss.length ⟨0, by omega, rfl, rfl, rfl, rfl, rfl, rfl, trivial⟩ ?_
 rintro mm L Z' A' - ⟨j, hj, rfl, rfl, rfl, hk⟩
 refine Wk.kp hk ?_
 clear hk
 (repeat refine goS ?_)
 refine Wk.cond rfl (fun hc => ?_) (fun hc => ?_)
 ·have hlt : j < xss.length := by simp at hc; omega
  obtain ⟨u, e1, e2⟩ := a1.getElem hlt
  obtain ⟨w, f1, f2⟩ := a2.getElem hlt
  (repeat refine goS ?_)
  refine Wk.drawr (ms := [0, 0, 3, 7, 15, 0, 0, 96, 224, 480, 1023]) (l := [0, 1, 2, 3, 4, 5, 6, 7, 8, 9, 10]) (by kernel_rfl) (by kernel_rfl) (by kernel_rfl) rfl ?_
  (repeat refine goS ?_)
  refine Wk.iaSl j s1 rfl rfl rfl rfl rfl rfl rfl hlt (getCells_one (by simpa using e1)) fun b off hp => ?_
  refine Wk.loadP0 rfl rfl (by assumption) rfl rfl rfl rfl ?_
  refine Wk.v rfl rfl rfl (Rd.str rfl rfl rfl rfl e2) ?_
  (repeat refine goS ?_)
  refine Wk.iaSl j s2 rfl rfl rfl rfl rfl rfl rfl hlt (getCells_one (by simpa using f1)) fun b' off' hp' => ?_
  refine Wk.loadP0 rfl rfl hp' rfl rfl rfl rfl ?_
  refine Wk.v rfl rfl rfl (Rd.str rfl rfl rfl rfl f2) ?_
  (repeat refine goS ?_)
  refine Wk.cond rfl (fun hc => absurd hc (by simp)) (fun _ => ?_)
  (repeat refine goS ?_)
  exact Wk.inv ⟨_, by omega, j + 1, hlt, rfl, rfl, rfl, rfl, rfl, rfl, trivial⟩
 ·(repeat refine goS ?_)
  refine Wk.ret ?_
  exact ⟨_, Rs.tmp rfl Rs.nil, _, Sub.refl _, rfl, rfl, rfl⟩
set_option maxHeartbeats 4000000
abbrev Dsk := List (List Int) × List (Int × List Int)
def Wrs (Z : Zone) (v : Value) (ws : List (Int × List Int)) : Prop := ∃ us, Sl Z 2 v ws.length us ∧ ∀ i (h : i < ws.length), ∃ u, getCells us (i * 2) 2 = some [.int .i64 ws[i].1, u] ∧ Sl Z 1 u ws[i].2.length (by8 ws[i].2)
theorem Wrs.mono {Z Z' : Zone} {v : Value} {ws : List (Int × List Int)} (e : Ext Z Z') (h : Wrs Z v ws) : Wrs Z' v ws := let ⟨us, h1, h2⟩ := h; ⟨us, h1.mono e, fun i hi => let ⟨u, k1, k2⟩ := h2 i hi; ⟨u, k1, k2.mono e⟩⟩
def Dk (Z : Zone) (v : Value) (d : Dsk) : Prop := ∃ vb vp, v = .agg ⟨[vb, vp]⟩ ∧ Bys Z vb d.1 ∧ Wrs Z vp d.2
theorem Dk.mono {Z Z' : Zone} {v : Value} {d : Dsk} (e : Ext Z Z') (h : Dk Z v d) : Dk Z' v d := let ⟨a, b, h1, h2, h3⟩ := h; ⟨a, b, h1, h2.mono e, h3.mono e⟩
def ThinP (d : Dsk) : Prop := d.1.length ≤ 130 ∧ d.2.length ≤ 130 ∧ (∀ x ∈ d.1, x.length ≤ 40) ∧ (∀ w ∈ d.2, w.2.length ≤ 40)
theorem thinDisk {Z : Zone} {v : Value} {d : Dsk} (h : Dk Z v d) : Cz M (.func (.func 11) #[] #[]) [v] Z [] (fun v' Z' A' => (∃ b : Bool, v' = .bool b ∧ (b = true ↔ ThinP d)) ∧ Z = Z' ∧ A' = []) := by
 obtain ⟨vb, vp, rfl, ⟨us, s1, a1⟩, ⟨ws, s2, a2⟩⟩ := h
 have no : ∀ {Z' : Zone}, ¬ ThinP d → (∃ b : Bool, outOf [.bool false] = .bool b ∧ (b = true ↔ ThinP d)) := fun h => ⟨false, rfl, by simp; exact h⟩
 refine Cz.fn (f := Tryz.f11) (by kernel_rfl) rfl rfl rfl _ rfl ?_
 (repeat first|refine goT ?_|intro b)
 refine Wk.caser 9 rfl (fun hc => ?_) (fun hc => ?_)
 ·(repeat first|refine goT ?_|intro b)
  refine Wk.ret ?_
  exact ⟨_, Rs.tmp rfl Rs.nil, _, Sub.none _, no (Z' := Z) (fun h => by simp at hc; have := h.1; omega), rfl, rfl⟩
 have hb : d.1.length ≤ 130 := by simp at hc; omega
 (repeat first|refine goT ?_|intro b)
 refine Wk.cond rfl (fun hc => ?_) (fun hc => ?_)
 ·(repeat first|refine goT ?_|intro b)
  refine Wk.ret ?_
  exact ⟨_, Rs.tmp rfl Rs.nil, _, Sub.none _, no (Z' := Z) (fun h => by simp at hc; have := h.2.1; omega), rfl, rfl⟩
 have hp : d.2.length ≤ 130 := by simp at hc; omega
 (repeat first|refine goT ?_|intro b)
 refine Wk.loop (fun mm L Z' A' => ∃ j, j ≤ d.1.length ∧ mm = d.1.length - j ∧ Z = Z' ∧ A' = [pt _ (.cells [vb, vp] true 0)] ∧ (∀ i (h : i < d.1.length), i < j → d.1[i].length ≤ 40) ∧ Kp L [(1, .pointer (some ⟨_, 0, none⟩)), (3, .int .i64 j)]) d.1.length ⟨0, by omega, rfl, rfl, rfl, fun i _ h => by omega, rfl, rfl, trivial⟩ ?_
 rintro mm L Z' A' - ⟨j, hj, rfl, rfl, rfl, hall, hk⟩
 refine Wk.kp hk ?_
 clear hk
 (repeat first|refine goT ?_|intro b)
 refine Wk.cond rfl (fun hc => ?_) (fun hc => ?_)
 ·have hlt : j < d.1.length := by simp at hc; omega
  obtain ⟨u, e1, e2⟩ := a1.getElem hlt
  (repeat first|refine goT ?_|intro b)
  refine Wk.iaSl j s1 rfl rfl rfl rfl rfl rfl rfl hlt (getCells_one (by simpa using e1)) fun b off hp => ?_
  (repeat first|refine goT ?_|intro b)
  refine Wk.cond rfl (fun hc => ?_) (fun hc => ?_)
  ·(repeat first|refine goT ?_|intro b)
   refine Wk.ret ?_
   exact ⟨_, Rs.tmp rfl Rs.nil, _, Sub.none _, no (Z' := Z) (fun h => by simp at hc; have := h.2.2.1 _ (List.getElem_mem hlt); omega), rfl, rfl⟩
  ·have h40 : d.1[j].length ≤ 40 := by simp at hc; omega
   (repeat first|refine goT ?_|intro b)
   refine Wk.inv ⟨_, by omega, j + 1, hlt, rfl, rfl, rfl, fun i hi h => ?_, rfl, rfl, trivial⟩
   by_cases e : i = j
   ·subst e; exact h40
   ·exact hall i hi (by omega)
 have hbl : ∀ x ∈ d.1, x.length ≤ 40 := fun x hx => by
  obtain ⟨i, hi, rfl⟩ := List.getElem_of_mem hx
  exact hall i hi (by simp at hc; omega)
 (repeat first|refine goT ?_|intro b)
 refine Wk.loop (fun mm L Z' A' => ∃ j, j ≤ d.2.length ∧ mm = d.2.length - j ∧ Z = Z' ∧ A' = [pt _ (.cells [vb, vp] true 0)] ∧ (∀ i (h : i < d.2.length), i < j → d.2[i].2.length ≤ 40) ∧ Kp L [(1, .pointer (some ⟨_, 0, none⟩)), (4, .int .i64 j)]) d.2.length ⟨0, by omega, rfl, rfl, rfl, fun i _ h => by omega, rfl, rfl, trivial⟩ ?_
 rintro mm L Z' A' - ⟨j, hj, rfl, rfl, rfl, hall2, hk⟩
 refine Wk.kp hk ?_
 clear hk
 (repeat first|refine goT ?_|intro b)
 refine Wk.cond rfl (fun hc => ?_) (fun hc => ?_)
 ·have hlt : j < d.2.length := by simp at hc; omega
  obtain ⟨u, e1, e2⟩ := a2 j hlt
  (repeat first|refine goT ?_|intro b)
  refine Wk.iaSl j s2 rfl rfl rfl rfl rfl rfl rfl hlt e1 fun b off hp => ?_
  (repeat first|refine goT ?_|intro b)
  refine Wk.loadP rfl rfl hp rfl rfl rfl rfl ?_
  refine Wk.lenSl rfl e2 rfl rfl rfl rfl rfl ?_
  (repeat first|refine goT ?_|intro b)
  refine Wk.cond rfl (fun hc => ?_) (fun hc => ?_)
  ·(repeat first|refine goT ?_|intro b)
   refine Wk.ret ?_
   exact ⟨_, Rs.tmp rfl Rs.nil, _, Sub.none _, no (Z' := Z) (fun h => by simp at hc; have := h.2.2.2 _ (List.getElem_mem hlt); omega), rfl, rfl⟩
  ·have h40 : d.2[j].2.length ≤ 40 := by simp at hc; omega
   (repeat first|refine goT ?_|intro b)
   refine Wk.inv ⟨_, by omega, j + 1, hlt, rfl, rfl, rfl, fun i hi h => ?_, rfl, rfl, trivial⟩
   by_cases e : i = j
   ·subst e; exact h40
   ·exact hall2 i hi (by omega)
 have hpl : ∀ x ∈ d.2, x.2.length ≤ 40 := fun x hx => by
  obtain ⟨i, hi, rfl⟩ := List.getElem_of_mem hx
  exact hall2 i hi (by simp at hc; omega)
 (repeat first|refine goT ?_|intro b)
 refine Wk.ret ?_
 exact ⟨_, Rs.tmp rfl Rs.nil, _, Sub.none _, ⟨true, rfl, by simp; exact ⟨hb, hp, hbl, hpl⟩⟩, rfl, rfl⟩
def WA (Z : Zone) (us : List Value) (ws : List (Int × List Int)) : Prop := us.length = ws.length * 2 ∧ ∀ i (h : i < ws.length), ∃ u, getCells us (i * 2) 2 = some [.int .i64 ws[i].1, u] ∧ Sl Z 1 u ws[i].2.length (by8 ws[i].2)
theorem WA.mono {Z Z' : Zone} {us : List Value} {ws : List (Int × List Int)} (e : Ext Z Z') (h : WA Z us ws) : WA Z' us ws := ⟨h.1, fun i hi => let ⟨u, k1, k2⟩ := h.2 i hi; ⟨u, k1, k2.mono e⟩⟩
theorem WA.nil {Z : Zone} : WA Z [] [] := ⟨rfl, fun i h => by cases h⟩
theorem WA.snoc {Z : Zone} {us : List Value} {ws : List (Int × List Int)} {w : Int × List Int} {u : Value} (h : WA Z us ws) (k : Sl Z 1 u w.2.length (by8 w.2)) : WA Z (us ++ [.int .i64 w.1, u]) (ws ++ [w]) := by
 refine ⟨by simp [h.1]; omega, fun i hi => ?_⟩
 have hl := h.1
 by_cases e : i < ws.length
 ·obtain ⟨v, k1, k2⟩ := h.2 i e
  refine ⟨v, ?_, ?_⟩
  ·rw [List.getElem_append_left e]
   obtain ⟨a1, a2, a3⟩ := getC_some k1
   unfold getCells
   rw [if_pos (by simp; omega), List.drop_append_of_le_length (by omega), List.take_append_of_le_length (by simp; omega), ← a2]
  ·rw [List.getElem_append_left e]; exact k2
 ·have e' : i = ws.length := by simp at hi; omega
  subst e'
  refine ⟨u, ?_, ?_⟩
  ·simp only [List.getElem_append_right (Nat.le_refl _), Nat.sub_self, List.getElem_cons_zero]
   unfold getCells
   rw [if_pos (by simp; omega), ← hl, List.drop_append_of_le_length (Nat.le_refl _)]
   simp
  ·simp only [List.getElem_append_right (Nat.le_refl _), Nat.sub_self, List.getElem_cons_zero]; exact k
theorem Wrs.of {Z : Zone} {v : Value} {us : List Value} {ws : List (Int × List Int)} (h : Sl Z 2 v ws.length us) (k : WA Z us ws) : Wrs Z v ws := ⟨us, h, k.2⟩
theorem copyDisk {Z : Zone} {v : Value} {d : Dsk} (h : Dk Z v d) (ht : ThinP d) : Cz M (.func (.func 15) #[] #[]) [v] Z [] (fun v' Z' A' => ∃ vB vP us', v' = .agg ⟨[vB, vP]⟩ ∧ A' = [ol 1 vB d.1.length us'] ∧ All2 (fun u xs => Sl Z' 1 u xs.length (by8 xs)) us' d.1 ∧ Wrs Z' vP d.2) := by
 obtain ⟨vb, vp, rfl, ⟨us, s1, a1⟩, ⟨ws, s2, a2⟩⟩ := h
 obtain ⟨t1, t2, t3, t4⟩ := ht
 refine Cz.fn (f := Tryz.f15) (by kernel_rfl) rfl rfl rfl _ rfl ?_
 (repeat first|refine goT ?_|intro b)
 refine Wk.olNil 1 ?_
 refine Wk.loop (fun mm L Z' A' => ∃ j vB us', j ≤ d.1.length ∧ mm = d.1.length - j ∧ Ext Z Z' ∧ A' = [ol 1 vB j us', pt _ (.cells [vB, .slice none 0 0] true 0), pt _ (.cells [.slice none 0 0, .slice none 0 0] true 0), pt _ (.cells [vb, vp] true 0)] ∧
  All2 (fun u xs => Sl Z' 1 u xs.length (by8 xs)) us' (d.1.take j) ∧ Kp L [(1, .pointer (some ⟨_, 0, none⟩)), (2, .pointer (some ⟨_, 0, none⟩)), (3, .pointer (some ⟨_, 0, none⟩)), (4, .int .i64 j)]) d.1.length ⟨0, _, [], by omega, rfl, Ext.refl _, rfl, .nil, rfl, rfl, rfl, rfl, trivial⟩ ?_
 rintro mm L Z' A' - ⟨j, vB, us', hj, rfl, hz, rfl, hall, hk⟩
 refine Wk.kp hk ?_
 clear hk
 have s1' := s1.mono hz
 (repeat first|refine goT ?_|intro b)
 refine Wk.cond rfl (fun hc => ?_) (fun hc => ?_)
 ·have hlt : j < d.1.length := by simp at hc; omega
  obtain ⟨u, e1, e2⟩ := a1.getElem hlt
  replace e2 := e2.mono hz
  have h40 := t3 _ (List.getElem_mem hlt)
  (repeat first|refine goT ?_|intro b)
  refine Wk.drawr (ms := [0, 1, 0, 0, 8, 0, 56, 120, 252, 508, 1023, 2047, 4095]) (l := [0, 1, 2, 3, 4, 5, 6, 7, 8, 9, 10, 11, 12]) (by kernel_rfl) (by kernel_rfl) (by kernel_rfl) rfl ?_
  refine Wk.knowr (x := ol 1 vB j us') rem (fun s h => ol.form h) ?_
  rintro ⟨aB, cB, rfl⟩
  (repeat first|refine goT ?_|intro b)
  refine Wk.bs rfl rfl rfl rfl rfl rfl rfl fun b16 => ?_
  (repeat first|refine goT ?_|intro b)
  refine Wk.iaSl j s1' rfl rfl rfl rfl rfl rfl rfl hlt (getCells_one (by simpa using e1)) fun b off hp => ?_
  (repeat first|refine goT ?_|intro b)
  refine Wk.alterr (C := [ol 1 (.slice (some ⟨b16, 0, none⟩) 0 0) 0 []]) rem (fun s h => ol_of_pt (m := 0) (vs := []) (g := 0) rfl (.inl rfl) rfl h) ?_
  refine Wk.appendD rfl rfl rfl rfl rfl rfl rfl rfl Rem.head (Src.sl e2) rfl (okCells_by8 _) (by rw [by8_length]; omega) (by omega) (by omega) rfl rfl fun v22 => ⟨?_, ?_⟩
  ·exact pnb
  refine Wk.olFreezer Rem.head fun Z1 hz1 h22 => ?_
  simp only [List.nil_append, Nat.zero_add] at h22
  refine Wk.bs (cs := [v22]) rfl rfl rfl rfl rfl rfl (by simp [fillL, putAt, repCells, h22.cellsL]) fun b23 => ?_
  refine Wk.append (kk := 1) (new := [v22]) rfl rfl rfl rfl rfl rfl rfl rfl rem (Src.lit has rfl) rfl (by obtain ⟨_, _, rfl⟩ := h22.form; rfl) rfl (by omega) (by omega) (by kernel_rfl) rfl rfl fun v24 => ?_
  refine Wk.dropr (.keep (.drop (Sub.refl _))) ?_
  refine Wk.knowr (x := ol 1 v24 (j + 1) (us' ++ [v22])) rem (fun s h => ol.form h) ?_
  rintro ⟨a24, c24, rfl⟩
  (repeat first|refine goT ?_|intro b)
  refine Wk.inv ⟨_, by omega, j + 1, _, us' ++ [v22], hlt, rfl, hz.trans hz1, rfl, ?_, rfl, rfl, rfl, rfl, trivial⟩
  rw [List.take_succ_eq_append_getElem hlt]
  exact (hall.mono fun _ _ q => q.mono hz1).snoc h22
 ·have hjd : j = d.1.length := by simp at hc; omega
  subst hjd
  rw [List.take_length] at hall
  have s2' := s2.mono hz
  (repeat first|refine goT ?_|intro b)
  refine Wk.olNil 2 ?_
  refine Wk.loop (fun mm L Z'' A' => ∃ j vP ps', j ≤ d.2.length ∧ mm = d.2.length - j ∧ Ext Z' Z'' ∧ A' = [ol 2 vP j ps', ol 1 vB d.1.length us', pt _ (.cells [vB, vP] true 0), pt _ (.cells [.slice none 0 0, .slice none 0 0] true 0), pt _ (.cells [vb, vp] true 0)] ∧
   WA Z'' ps' (d.2.take j) ∧ Kp L [(1, .pointer (some ⟨_, 0, none⟩)), (2, .pointer (some ⟨_, 0, none⟩)), (3, .pointer (some ⟨_, 0, none⟩)), (5, .int .i64 j)]) d.2.length ⟨0, _, [], by omega, rfl, Ext.refl _, rfl, WA.nil, rfl, rfl, rfl, rfl, trivial⟩ ?_
  rintro mm L Z'' A' - ⟨j, vP, ps', hj, rfl, hz', rfl, hwa, hk⟩
  refine Wk.kp hk ?_
  clear hk
  have s2'' := s2'.mono hz'
  (repeat first|refine goT ?_|intro b)
  refine Wk.cond rfl (fun hc => ?_) (fun hc => ?_)
  ·have hlt : j < d.2.length := by simp at hc; omega
   obtain ⟨u, e1, e2⟩ := a2 j hlt
   replace e2 := e2.mono (hz.trans hz')
   have h40 := t4 _ (List.getElem_mem hlt)
   (repeat first|refine goT ?_|intro b)
   refine Wk.drawr (ms := [0, 1, 0, 4, 0, 28, 60, 124, 0, 0, 512, 0, 3584, 7680, 15872, 32512, 65532, 131068, 262143, 524287, 1048575]) (l := [0, 1, 2, 3, 4, 5, 6, 7, 8, 9, 10, 11, 12, 13, 14, 15, 16, 17, 18, 19, 20]) (by kernel_rfl) (by kernel_rfl) (by kernel_rfl) rfl ?_
   refine Wk.knowr (x := ol 2 vP j ps') rem (fun s h => ol.form h) ?_
   rintro ⟨aP, cP, rfl⟩
   (repeat first|refine goT ?_|intro b)
   refine Wk.iaSl j s2'' rfl rfl rfl rfl rfl rfl rfl hlt e1 fun b off hp => ?_
   (repeat first|refine goT ?_|intro b)
   refine Wk.bs rfl rfl rfl rfl rfl rfl rfl fun b41 => ?_
   (repeat first|refine goT ?_|intro b)
   refine Wk.iaSl j s2'' rfl rfl rfl rfl rfl rfl rfl hlt e1 fun b' off' hp' => ?_
   (repeat first|refine goT ?_|intro b)
   refine Wk.loadP rfl rfl hp' rfl rfl rfl rfl ?_
   refine Wk.alterr (C := [ol 1 (.slice (some ⟨b41, 0, none⟩) 0 0) 0 []]) rem (fun s h => ol_of_pt (m := 0) (vs := []) (g := 0) rfl (.inl rfl) rfl h) ?_
   refine Wk.appendD rfl rfl rfl rfl rfl rfl rfl rfl Rem.head (Src.sl e2) rfl (okCells_by8 _) (by rw [by8_length]; omega) (by omega) (by omega) rfl rfl fun v48 => ⟨?_, ?_⟩
   ·(repeat (first | exact PnAll.done | refine PnAll.two ?_ | refine PnAll.skip rfl ?_ | refine PnAll.keep (Rd.loadL rfl rfl has rfl rfl) (veq_slice _ _ _) ?_ | refine PnAll.keep (Rd.loadL rfl rfl has rfl rfl) (Sl.veq (by assumption)) ?_ | refine PnAll.keep (Rd.loadP rfl rfl hp rfl rfl) (veq_int _ _) ?_))
   refine Wk.olFreezer Rem.head fun Z1 hz1 h48 => ?_
   simp only [List.nil_append, Nat.zero_add] at h48
   obtain ⟨a48, c48, rfl⟩ := h48.form
   (repeat first|refine goT ?_|intro b)
   refine Wk.bs (cs := [.int .i64 d.2[j].1, _]) rfl rfl rfl rfl rfl rfl rfl fun b50 => ?_
   refine Wk.append (kk := 1) (new := [.int .i64 d.2[j].1, .slice a48 d.2[j].2.length c48]) rfl rfl rfl rfl rfl rfl rfl rfl rem (Src.lit has rfl) rfl rfl rfl (by omega) (by omega) (by kernel_rfl) rfl rfl fun v51 => ?_
   refine Wk.dropr (.keep (.drop (Sub.refl _))) ?_
   refine Wk.knowr (x := ol 2 v51 (j + 1) (ps' ++ [.int .i64 d.2[j].1, .slice a48 d.2[j].2.length c48])) rem (fun s h => ol.form h) ?_
   rintro ⟨a24, c24, rfl⟩
   (repeat first|refine goT ?_|intro b)
   refine Wk.inv ⟨_, by omega, j + 1, _, ps' ++ [.int .i64 d.2[j].1, .slice a48 d.2[j].2.length c48], hlt, rfl, hz'.trans hz1, rfl, ?_, rfl, rfl, rfl, rfl, trivial⟩
   rw [List.take_succ_eq_append_getElem hlt]
   exact (hwa.mono hz1).snoc h48
  ·have hjd : j = d.2.length := by simp at hc; omega
   subst hjd
   rw [List.take_length] at hwa
   (repeat first|refine goT ?_|intro b)
   refine Wk.olFreezer Rem.head fun Z1 hz1 hP => ?_
   obtain ⟨aP, cP, rfl⟩ := hP.form
   refine Wk.knowr (x := ol 1 vB d.1.length us') Rem.head (fun s h => ol.form h) ?_
   rintro ⟨aB, cB, rfl⟩
   (repeat first|refine goT ?_|intro b)
   refine Wk.ret ?_
   refine ⟨_, Rs.cell rfl rfl has rfl rfl Rs.nil, _, .keep (Sub.none _), _, _, us', rfl, rfl, ?_, Wrs.of hP (hwa.mono hz1)⟩
   exact hall.mono fun _ _ q => q.mono (hz'.trans hz1)
def BoolIs (v : Value) (p : Prop) : Prop := ∃ b : Bool, v = .bool b ∧ (b = true ↔ p)
theorem isLen {Z : Zone} {u : Value} {m : Nat} {vs : List Value} (h : Sl Z 1 u m vs) : Cz M (.func (.func 100) #[] #[]) [u] Z [] (fun v' Z' A' => BoolIs v' (m ≠ 32) ∧ Z = Z' ∧ A' = []) := by
 refine Cz.fn (f := Tryz.f100) (by kernel_rfl) rfl rfl rfl _ rfl ?_
 (repeat first|refine goT ?_|intro b)
 refine Wk.ret ?_
 exact ⟨_, Rs.tmp rfl Rs.nil, _, Sub.none _, ⟨_, rfl, by simp; omega⟩, rfl, rfl⟩
theorem indexB {Z : Zone} {v fv : Value} {us : List Value} {n : Nat} (p : Nat → Prop) (s : Sl Z 1 v n us) (hn : n ≤ 1000000)
  (hp : ∀ i u, i < n → us[i]? = some u → Cz M fv [u] Z [] (fun v' Z' A' => BoolIs v' (p i) ∧ Z = Z' ∧ A' = [])) :
  Cz M (.func (.func 158) #[] #[]) [v, fv] Z [] (fun v' Z' A' => (∃ r : Int, v' = .int .i64 r ∧ (0 ≤ r ↔ ∃ i, i < n ∧ p i)) ∧ Z = Z' ∧ A' = []) := by
 refine Cz.fn (f := Tryz.f158) (by kernel_rfl) rfl rfl rfl _ rfl ?_
 (repeat first|refine goT ?_|intro b)
 refine Wk.loop (fun mm L Z' A' => ∃ j, j ≤ n ∧ mm = n - j ∧ Z = Z' ∧ A' = [] ∧ (∀ i, i < j → ¬ p i) ∧ Kp L [(0, v), (1, fv), (7, .int .i64 n), (8, .int .i64 j)]) n ⟨0, by omega, rfl, rfl, rfl, fun i h => by omega, rfl, rfl, rfl, rfl, trivial⟩ ?_
 rintro mm L Z' A' - ⟨j, hj, rfl, rfl, rfl, hall, hk⟩
 refine Wk.kp hk ?_
 clear hk
 (repeat first|refine goT ?_|intro b)
 refine Wk.cond rfl (fun hc => ?_) (fun hc => ?_)
 ·have hlt : j < n := by simp at hc; omega
  have hul := s.length
  have e1 : us[j]? = some us[j] := List.getElem?_eq_getElem (by omega)
  (repeat first|refine goT ?_|intro b)
  refine Wk.iaSl j s rfl rfl rfl rfl rfl rfl rfl hlt (getCells_one (by rw [Nat.mul_one]; exact e1)) fun b off hp' => ?_
  (repeat first|refine goT ?_|intro b)
  refine Wk.call rfl rfl (Spl.none _) (hp j _ hlt e1) rfl rfl rfl ?_
  rintro v' Z' A' hz ⟨⟨b, rfl, hb⟩, rfl, rfl⟩
  (repeat first|refine goT ?_|intro b)
  refine Wk.cond rfl (fun hc => ?_) (fun hc => ?_)
  ·(repeat first|refine goT ?_|intro b)
   refine Wk.ret ?_
   exact ⟨_, Rs.tmp rfl Rs.nil, _, Sub.none _, ⟨_, rfl, by simp; exact ⟨j, hlt, hb.1 hc⟩⟩, rfl, rfl⟩
  ·have hnp : ¬ p j := fun h => by rw [hb.2 h] at hc; cases hc
   (repeat first|refine goT ?_|intro b)
   refine Wk.inv ⟨_, by omega, j + 1, hlt, rfl, rfl, rfl, fun i h => ?_, rfl, rfl, rfl, rfl, trivial⟩
   by_cases e : i = j
   ·subst e; exact hnp
   ·exact hall i (by omega)
 ·(repeat first|refine goT ?_|intro b)
  refine Wk.ret ?_
  exact ⟨_, Rs.tmp rfl Rs.nil, _, Sub.none _, ⟨_, rfl, by simp; exact fun i h => hall i (by simp at hc; omega)⟩, rfl, rfl⟩
theorem containsB {Z : Zone} {v fv : Value} {us : List Value} {n : Nat} (p : Nat → Prop) (s : Sl Z 1 v n us) (hn : n ≤ 1000000)
  (hp : ∀ i u, i < n → us[i]? = some u → Cz M fv [u] Z [] (fun v' Z' A' => BoolIs v' (p i) ∧ Z = Z' ∧ A' = [])) :
  Cz M (.func (.func 101) #[] #[]) [v, fv] Z [] (fun v' Z' A' => BoolIs v' (∃ i, i < n ∧ p i) ∧ Z = Z' ∧ A' = []) := by
 refine Cz.fn (f := Tryz.f101) (by kernel_rfl) rfl rfl rfl _ rfl ?_
 (repeat first|refine goT ?_|intro b)
 refine Wk.call rfl rfl (Spl.none _) (indexB p s hn hp) rfl rfl rfl ?_
 rintro v' Z' A' hz ⟨⟨r, rfl, hr⟩, rfl, rfl⟩
 (repeat first|refine goT ?_|intro b)
 refine Wk.ret ?_
 exact ⟨_, Rs.tmp rfl Rs.nil, _, Sub.none _, ⟨_, rfl, by rw [← hr]; simp⟩, rfl, rfl⟩
theorem indexW {Z : Zone} {v fv : Value} {us : List Value} {n : Nat} (p : Nat → Prop) (s : Sl Z 2 v n us) (hn : n ≤ 1000000)
  (hp : ∀ i a b, i < n → getCells us (i * 2) 2 = some [a, b] → Cz M fv [.agg ⟨[a, b]⟩] Z [] (fun v' Z' A' => BoolIs v' (p i) ∧ Z = Z' ∧ A' = [])) :
  Cz M (.func (.func 159) #[] #[]) [v, fv] Z [] (fun v' Z' A' => (∃ r : Int, v' = .int .i64 r ∧ (0 ≤ r ↔ ∃ i, i < n ∧ p i)) ∧ Z = Z' ∧ A' = []) := by
 refine Cz.fn (f := Tryz.f159) (by kernel_rfl) rfl rfl rfl _ rfl ?_
 (repeat first|refine goT ?_|intro b)
 refine Wk.loop (fun mm L Z' A' => ∃ j, j ≤ n ∧ mm = n - j ∧ Z = Z' ∧ A' = [] ∧ (∀ i, i < j → ¬ p i) ∧ Kp L [(0, v), (1, fv), (7, .int .i64 n), (8, .int .i64 j)]) n ⟨0, by omega, rfl, rfl, rfl, fun i h => by omega, rfl, rfl, rfl, rfl, trivial⟩ ?_
 rintro mm L Z' A' - ⟨j, hj, rfl, rfl, rfl, hall, hk⟩
 refine Wk.kp hk ?_
 clear hk
 (repeat first|refine goT ?_|intro b)
 refine Wk.cond rfl (fun hc => ?_) (fun hc => ?_)
 ·have hlt : j < n := by simp at hc; omega
  have hul := s.length
  obtain ⟨a, b, e1⟩ : ∃ a b, getCells us (j * 2) 2 = some [a, b] := by
   refine ⟨us[j * 2], us[j * 2 + 1], ?_⟩
   unfold getCells
   rw [if_pos (by omega), List.drop_eq_getElem_cons (by omega), List.drop_eq_getElem_cons (by omega)]
   rfl
  (repeat first|refine goT ?_|intro b)
  refine Wk.iaSl j s rfl rfl rfl rfl rfl rfl rfl hlt e1 fun b off hp' => ?_
  (repeat first|refine goT ?_|intro b)
  refine Wk.call rfl rfl (Spl.none _) (hp j _ _ hlt e1) rfl rfl rfl ?_
  rintro v' Z' A' hz ⟨⟨b, rfl, hb⟩, rfl, rfl⟩
  (repeat first|refine goT ?_|intro b)
  refine Wk.cond rfl (fun hc => ?_) (fun hc => ?_)
  ·(repeat first|refine goT ?_|intro b)
   refine Wk.ret ?_
   exact ⟨_, Rs.tmp rfl Rs.nil, _, Sub.none _, ⟨_, rfl, by simp; exact ⟨j, hlt, hb.1 hc⟩⟩, rfl, rfl⟩
  ·have hnp : ¬ p j := fun h => by rw [hb.2 h] at hc; cases hc
   (repeat first|refine goT ?_|intro b)
   refine Wk.inv ⟨_, by omega, j + 1, hlt, rfl, rfl, rfl, fun i h => ?_, rfl, rfl, rfl, rfl, trivial⟩
   by_cases e : i = j
   ·subst e; exact hnp
   ·exact hall i (by omega)
 ·(repeat first|refine goT ?_|intro b)
  refine Wk.ret ?_
  exact ⟨_, Rs.tmp rfl Rs.nil, _, Sub.none _, ⟨_, rfl, by simp; exact fun i h => hall i (by simp at hc; omega)⟩, rfl, rfl⟩
theorem containsW {Z : Zone} {v fv : Value} {us : List Value} {n : Nat} (p : Nat → Prop) (s : Sl Z 2 v n us) (hn : n ≤ 1000000)
  (hp : ∀ i a b, i < n → getCells us (i * 2) 2 = some [a, b] → Cz M fv [.agg ⟨[a, b]⟩] Z [] (fun v' Z' A' => BoolIs v' (p i) ∧ Z = Z' ∧ A' = [])) :
  Cz M (.func (.func 102) #[] #[]) [v, fv] Z [] (fun v' Z' A' => BoolIs v' (∃ i, i < n ∧ p i) ∧ Z = Z' ∧ A' = []) := by
 refine Cz.fn (f := Tryz.f102) (by kernel_rfl) rfl rfl rfl _ rfl ?_
 (repeat first|refine goT ?_|intro b)
 refine Wk.call rfl rfl (Spl.none _) (indexW p s hn hp) rfl rfl rfl ?_
 rintro v' Z' A' hz ⟨⟨r, rfl, hr⟩, rfl, rfl⟩
 (repeat first|refine goT ?_|intro b)
 refine Wk.ret ?_
 exact ⟨_, Rs.tmp rfl Rs.nil, _, Sub.none _, ⟨_, rfl, by rw [← hr]; simp⟩, rfl, rfl⟩
theorem badW {Z : Zone} {b4 b3 n : Nat} {a : Int} {u : Value} {m : Nat} {vs : List Value} (h4 : Z b4 = some (.cells [.int .i64 n] true 0)) (h3 : Z b3 = some (.cells [.func (.func 100) #[] #[]] true 0)) (hs : Sl Z 1 u m vs) :
  Cz M (.func (.func 103) #[] ⟨[.pointer (some ⟨b4, 0, none⟩), .pointer (some ⟨b3, 0, none⟩)]⟩) [.agg ⟨[.int .i64 a, u]⟩] Z [] (fun v' Z' A' => BoolIs v' (a < 0 ∨ (n : Int) ≤ a ∨ m ≠ 32) ∧ Z = Z' ∧ A' = []) := by
 refine Cz.fn (f := Tryz.f103) (by kernel_rfl) rfl rfl rfl _ rfl ?_
 (repeat first|refine goT ?_|intro b)
 refine Wk.caser 8 rfl (fun hc => ?_) (fun hc => ?_)
 ·(repeat first|refine goT ?_|intro b)
  refine Wk.ret ?_
  exact ⟨_, Rs.tmp rfl Rs.nil, _, Sub.none _, ⟨_, rfl, by simp at hc; simp; omega⟩, rfl, rfl⟩
 (repeat first|refine goT ?_|intro b)
 refine Wk.caser 14 rfl (fun hd => ?_) (fun hd => ?_)
 ·(repeat first|refine goT ?_|intro b)
  refine Wk.ret ?_
  exact ⟨_, Rs.tmp rfl Rs.nil, _, Sub.none _, ⟨_, rfl, by simp at hc hd; simp; omega⟩, rfl, rfl⟩
 (repeat first|refine goT ?_|intro b)
 refine Wk.call rfl rfl (Spl.none _) (isLen hs) rfl rfl rfl ?_
 rintro v' Z' A' hz ⟨⟨b, rfl, hb⟩, rfl, rfl⟩
 (repeat first|refine goT ?_|intro b)
 refine Wk.ret ?_
 exact ⟨_, Rs.tmp rfl Rs.nil, _, Sub.none _, ⟨_, rfl, by simp at hc hd; rw [hb]; omega⟩, rfl, rfl⟩
def OkDisk (d : Dsk) : Prop := d.1.length % 2 = 0 ∧ 8 ≤ d.1.length ∧ d.1.length ≤ 120 ∧ (∀ x ∈ d.1, x.length = 32) ∧ d.2.length ≤ 120 ∧ ∀ w ∈ d.2, 0 ≤ w.1 ∧ w.1 < d.1.length ∧ w.2.length = 32
instance (d : Dsk) : Decidable (OkDisk d) := by unfold OkDisk; infer_instance
theorem checkDisk {Z : Zone} {v : Value} {d : Dsk} (h : Dk Z v d) (ht : ThinP d) : Cz M (.func (.func 52) #[] #[]) [v] Z [] (fun v' Z' A' => v' = .int .i64 (if OkDisk d then 0 else 4) ∧ A' = []) := by
 obtain ⟨vb, vp, rfl, ⟨us, s1, a1⟩, ⟨ws, s2, a2⟩⟩ := h
 obtain ⟨t1, t2, t3, t4⟩ := ht
 have no : ¬ OkDisk d → outOf [.int .i64 4] = .int .i64 (if OkDisk d then 0 else 4) := fun h => by rw [if_neg h]; rfl
 refine Cz.fn (f := Tryz.f52) (by kernel_rfl) rfl rfl rfl _ rfl ?_
 (repeat first|refine goT ?_|intro b)
 refine Wk.caser 11 rfl (fun hc => ?_) (fun hc => ?_)
 ·(repeat first|refine goT ?_|intro b)
  refine Wk.ret ?_
  exact ⟨_, Rs.tmp rfl Rs.nil, _, Sub.none _, no fun h => by simp at hc; have := h.1; omega, rfl⟩
 (repeat first|refine goT ?_|intro b)
 refine Wk.caser 15 rfl (fun hd => ?_) (fun hd => ?_)
 ·(repeat first|refine goT ?_|intro b)
  refine Wk.ret ?_
  exact ⟨_, Rs.tmp rfl Rs.nil, _, Sub.none _, no fun h => by simp at hd; have := h.2.1; omega, rfl⟩
 (repeat first|refine goT ?_|intro b)
 refine Wk.caser 19 rfl (fun he => ?_) (fun he => ?_)
 ·(repeat first|refine goT ?_|intro b)
  refine Wk.ret ?_
  exact ⟨_, Rs.tmp rfl Rs.nil, _, Sub.none _, no fun h => by simp at he; have := h.2.2.1; omega, rfl⟩
 (repeat first|refine goT ?_|intro b)
 refine Wk.call rfl rfl (Spl.none _) (containsB (fun i => ∃ h : i < d.1.length, d.1[i].length ≠ 32) s1 (by omega) (fun i u hi e => ?_)) rfl rfl rfl ?_
 ·obtain ⟨u', k1, k2⟩ := a1.getElem hi
  rw [k1] at e
  cases e
  have := isLen k2
  exact this.mono fun v' Z' A' _ ⟨⟨b, h1, h2⟩, h3⟩ => ⟨⟨b, h1, by rw [h2]; exact ⟨fun h => ⟨hi, h⟩, fun ⟨_, h⟩ => h⟩⟩, h3⟩
 rintro v' Z' A' hz ⟨⟨b, rfl, hb⟩, rfl, rfl⟩
 cases b with
 | true =>
  (repeat first|refine goT ?_|intro b)
  refine Wk.ret ?_
  exact ⟨_, Rs.tmp rfl Rs.nil, _, Sub.none _, no fun h => by obtain ⟨i, hi, _, h32⟩ := hb.1 rfl; exact h32 (h.2.2.2.1 _ (List.getElem_mem hi)), rfl⟩
 | false =>
 have hbl : ∀ x ∈ d.1, x.length = 32 := fun x hx => by
  obtain ⟨i, hi, rfl⟩ := List.getElem_of_mem hx
  exact Classical.byContradiction fun h => by have := hb.2 ⟨i, hi, hi, h⟩; cases this
 (repeat first|refine goT ?_|intro b)
 refine Wk.cond rfl (fun hf => ?_) (fun hf => ?_)
 ·(repeat first|refine goT ?_|intro b)
  refine Wk.ret ?_
  exact ⟨_, Rs.tmp rfl Rs.nil, _, Sub.none _, no fun h => by simp at hf; have := h.2.2.2.2.1; omega, rfl⟩
 refine Wk.freeze rem fun Z1 e1 hb4 => ?_
 refine Wk.freeze rem fun Z2 e2 hb3 => ?_
 have hb4' := e2 _ _ hb4
 have s2' := s2.mono (e1.trans e2)
 (repeat first|refine goT ?_|intro b)
 refine Wk.mkf rfl rfl rfl rfl ?_
 refine Wk.call rfl rfl (Spl.none _) (containsW (fun i => ∃ h : i < d.2.length, d.2[i].1 < 0 ∨ (d.1.length : Int) ≤ d.2[i].1 ∨ d.2[i].2.length ≠ 32) s2' (by omega) (fun i a b hi e => ?_)) rfl rfl rfl ?_
 ·obtain ⟨u', k1, k2⟩ := a2 i hi
  rw [k1] at e
  cases e
  have := badW (n := d.1.length) (a := d.2[i].1) hb4' hb3 (k2.mono (e1.trans e2))
  exact this.mono fun v' Z' A' _ ⟨⟨b, h1, h2⟩, h3⟩ => ⟨⟨b, h1, by rw [h2]; exact ⟨fun h => ⟨hi, h⟩, fun ⟨_, h⟩ => h⟩⟩, h3⟩
 rintro v' Z' A' hz ⟨⟨b, rfl, hw⟩, rfl, rfl⟩
 (repeat first|refine goT ?_|intro b)
 refine Wk.cond rfl (fun hg => ?_) (fun hg => ?_)
 ·(repeat first|refine goT ?_|intro b)
  refine Wk.ret ?_
  exact ⟨_, Rs.tmp rfl Rs.nil, _, Sub.none _, no fun h => by
   obtain ⟨i, hi, _, k⟩ := hw.1 hg
   have := h.2.2.2.2.2 _ (List.getElem_mem hi)
   omega, rfl⟩
 ·(repeat first|refine goT ?_|intro b)
  refine Wk.ret ?_
  refine ⟨_, Rs.tmp rfl Rs.nil, _, Sub.none _, ?_, rfl⟩
  have ok : OkDisk d := by
   simp at hc hd he hf
   refine ⟨by omega, by omega, by omega, hbl, by omega, fun w hw' => ?_⟩
   obtain ⟨i, hi, rfl⟩ := List.getElem_of_mem hw'
   refine Classical.byContradiction fun h => ?_
   rw [hw.2 ⟨i, hi, hi, by omega⟩] at hg
   cases hg
  rw [if_pos ok]; rfl
theorem cloneB {Z : Zone} {v : Value} {m : Nat} {vs : List Value} (h : Sl Z 1 v m vs) (hm : m ≤ 1000000) (ok : okCells vs = true) : Cz M (.func (.func 108) #[] #[]) [v] Z [] (fun v' Z' A' => Z = Z' ∧ A' = [ol 1 v' m vs]) := by
 have hl := h.length
 have h0 := h
 rcases h with ⟨rfl, rfl, rfl⟩ | ⟨b, off, c, xs, wr, g, rfl, h2, h3, h4, h5⟩
 ·refine Cz.fn (f := Tryz.f108) (by kernel_rfl) rfl rfl rfl _ rfl ?_
  (repeat first|refine goT ?_|intro b)
  refine Wk.olNil 1 ?_
  refine Wk.ret ?_
  exact ⟨_, Rs.tmp rfl Rs.nil, _, Sub.refl _, rfl, rfl⟩
 ·refine Cz.fn (f := Tryz.f108) (by kernel_rfl) rfl rfl rfl _ rfl ?_
  (repeat first|refine goT ?_|intro b)
  refine Wk.bs rfl rfl rfl rfl rfl rfl rfl fun b5 => ?_
  (repeat first|refine goT ?_|intro b)
  refine Wk.alterr (C := [ol 1 (.slice (some ⟨b5, 0, none⟩) 0 0) 0 []]) rem (fun s h => ol_of_pt (m := 0) (vs := []) (g := 0) rfl (.inl rfl) rfl h) ?_
  refine Wk.append rfl rfl rfl rfl rfl rfl rfl rfl Rem.head (Src.sl h0) rfl ok hl (by omega) (by omega) rfl rfl rfl fun v7 => ?_
  (repeat first|refine goT ?_|intro b)
  refine Wk.ret ?_
  exact ⟨_, Rs.tmp rfl Rs.nil, _, Sub.refl _, rfl, by simp only [Nat.zero_add, List.nil_append]; rfl⟩
theorem cloneS {Z : Zone} {v : Value} {m : Nat} {vs : List Value} (h : Sl Z 1 v m vs) (hm : m ≤ 1000000) (ok : okCells vs = true) : Cz M (.func (.func 165) #[] #[]) [v] Z [] (fun v' Z' A' => Z = Z' ∧ A' = [ol 1 v' m vs]) := by
 have hl := h.length
 have h0 := h
 rcases h with ⟨rfl, rfl, rfl⟩ | ⟨b, off, c, xs, wr, g, rfl, h2, h3, h4, h5⟩
 ·refine Cz.fn (f := Tryz.f165) (by kernel_rfl) rfl rfl rfl _ rfl ?_
  (repeat first|refine goT ?_|intro b)
  refine Wk.olNil 1 ?_
  refine Wk.ret ?_
  exact ⟨_, Rs.tmp rfl Rs.nil, _, Sub.refl _, rfl, rfl⟩
 ·refine Cz.fn (f := Tryz.f165) (by kernel_rfl) rfl rfl rfl _ rfl ?_
  (repeat first|refine goT ?_|intro b)
  refine Wk.bs rfl rfl rfl rfl rfl rfl rfl fun b5 => ?_
  (repeat first|refine goT ?_|intro b)
  refine Wk.alterr (C := [ol 1 (.slice (some ⟨b5, 0, none⟩) 0 0) 0 []]) rem (fun s h => ol_of_pt (m := 0) (vs := []) (g := 0) rfl (.inl rfl) rfl h) ?_
  refine Wk.append rfl rfl rfl rfl rfl rfl rfl rfl Rem.head (Src.sl h0) rfl ok hl (by omega) (by omega) rfl rfl rfl fun v7 => ?_
  (repeat first|refine goT ?_|intro b)
  refine Wk.ret ?_
  exact ⟨_, Rs.tmp rfl Rs.nil, _, Sub.refl _, rfl, by simp only [Nat.zero_add, List.nil_append]; rfl⟩
theorem cloneW {Z : Zone} {v : Value} {m : Nat} {vs : List Value} (h : Sl Z 2 v m vs) (hm : m ≤ 1000000) (ok : okCells vs = true) : Cz M (.func (.func 166) #[] #[]) [v] Z [] (fun v' Z' A' => Z = Z' ∧ A' = [ol 2 v' m vs]) := by
 have hl := h.length
 have h0 := h
 rcases h with ⟨rfl, rfl, rfl⟩ | ⟨b, off, c, xs, wr, g, rfl, h2, h3, h4, h5⟩
 ·refine Cz.fn (f := Tryz.f166) (by kernel_rfl) rfl rfl rfl _ rfl ?_
  (repeat first|refine goT ?_|intro b)
  refine Wk.olNil 2 ?_
  refine Wk.ret ?_
  exact ⟨_, Rs.tmp rfl Rs.nil, _, Sub.refl _, rfl, rfl⟩
 ·refine Cz.fn (f := Tryz.f166) (by kernel_rfl) rfl rfl rfl _ rfl ?_
  (repeat first|refine goT ?_|intro b)
  refine Wk.bs rfl rfl rfl rfl rfl rfl rfl fun b5 => ?_
  (repeat first|refine goT ?_|intro b)
  refine Wk.alterr (C := [ol 2 (.slice (some ⟨b5, 0, none⟩) 0 0) 0 []]) rem (fun s h => ol_of_pt (m := 0) (vs := []) (g := 0) rfl (.inl rfl) rfl h) ?_
  refine Wk.append rfl rfl rfl rfl rfl rfl rfl rfl Rem.head (Src.sl h0) rfl ok hl (by omega) (by omega) rfl rfl rfl fun v7 => ?_
  (repeat first|refine goT ?_|intro b)
  refine Wk.ret ?_
  exact ⟨_, Rs.tmp rfl Rs.nil, _, Sub.refl _, rfl, by simp only [Nat.zero_add, List.nil_append]; rfl⟩
theorem ok_sl {Z : Zone} {us : List Value} {xss : List (List Int)} (h : All2 (fun u xs => Sl Z 1 u xs.length (by8 xs)) us xss) : okCells us = true := by
 induction h with
 | nil => rfl
 | cons h _ ih => obtain ⟨a, c, rfl⟩ := h.form; simp only [okCells, List.all_cons, Bool.and_eq_true] at ih ⊢; exact ⟨rfl, ih⟩
theorem ok_wa {Z : Zone} : ∀ {us : List Value} {ws : List (Int × List Int)}, WA Z us ws → okCells us = true := by
 intro us ws h
 simp only [okCells, List.all_eq_true]
 intro x hx
 obtain ⟨i, hi, rfl⟩ := List.getElem_of_mem hx
 have hl := h.1
 obtain ⟨u, k1, k2⟩ := h.2 (i / 2) (by omega)
 obtain ⟨a1, a2, a3⟩ := getC_some k1
 obtain ⟨a, c, rfl⟩ := k2.form
 have e : us[i]? = [Value.int .i64 ws[i / 2].1, .slice a ws[i / 2].2.length c][i % 2]? := by
  rw [a2, List.getElem?_take_of_lt (by omega), List.getElem?_drop]
  congr 1; omega
 have : i % 2 = 0 ∨ i % 2 = 1 := by omega
 rcases this with h | h <;> rw [h] at e <;> rw [List.getElem?_eq_getElem hi] at e <;> simp at e <;> rw [e] <;> rfl
theorem set1 {us us' : List Value} {j : Nat} {u : Value} (h : us'.length = j) (hj : j < us.length) : setCells (us' ++ us.drop j) j [u] = some ((us' ++ [u]) ++ us.drop (j + 1)) := by
 unfold setCells
 rw [if_pos (by simp; omega)]
 subst h
 simp [List.drop_append]
theorem copiesB {Z : Zone} {v : Value} {us : List Value} {xss : List (List Int)} (s : Sl Z 1 v xss.length us) (a : All2 (fun u xs => Sl Z 1 u xs.length (by8 xs)) us xss) (hn : xss.length ≤ 1000000) (hx : ∀ xs ∈ xss, xs.length ≤ 1000000) :
  Cz M (.func (.func 107) #[] #[]) [v, .func (.func 108) #[] #[]] Z [] (fun v' Z' A' => Z = Z' ∧ ∃ us', A' = [inn us' (xss.map by8), ol 1 v' xss.length us']) := by
 have hl := a.length
 refine Cz.fn (f := Tryz.f107) (by kernel_rfl) rfl rfl rfl _ rfl ?_
 (repeat first|refine goT ?_|intro b)
 refine Wk.call rfl rfl (Spl.none _) (cloneS s hn (ok_sl a)) rfl rfl rfl ?_
 rintro v5 Z' A' hz ⟨rfl, rfl⟩
 (repeat first|refine goT ?_|intro b)
 refine Wk.lenOl rfl rem rfl rfl rfl rfl rfl ?_
 (repeat first|refine goT ?_|intro b)
 refine Wk.innNil ?_
 refine Wk.loop (fun mm L Z' A' => ∃ j us', us'.length = j ∧ j ≤ xss.length ∧ mm = xss.length - j ∧ Z = Z' ∧ A' = [inn us' ((xss.take j).map by8), ol 1 v5 xss.length (us' ++ us.drop j)] ∧ Kp L [(1, .func (.func 108) #[] #[]), (5, v5), (10, v5), (11, .int .i64 xss.length), (12, .int .i64 j)]) xss.length ⟨0, [], rfl, by omega, rfl, rfl, rfl, rfl, rfl, rfl, rfl, rfl, trivial⟩ ?_
 rintro mm L Z' A' - ⟨j, us', hu', hj, rfl, rfl, rfl, hk⟩
 refine Wk.kp hk ?_
 clear hk
 (repeat first|refine goT ?_|intro b)
 refine Wk.cond rfl (fun hc => ?_) (fun hc => ?_)
 ·have hlt : j < xss.length := by simp at hc; omega
  obtain ⟨u, e1, e2⟩ := a.getElem hlt
  have huj : us[j]'(by omega) = u := by rw [List.getElem?_eq_getElem (by omega)] at e1; exact Option.some.inj e1
  have hxl := hx _ (List.getElem_mem hlt)
  (repeat first|refine goT ?_|intro b)
  refine Wk.olOpenr (sz := 1) (v := v5) rem (by omega) fun bo => ?_
  refine Wk.iaOlp j rem rfl rfl rfl rfl rfl rfl rfl hlt ?_
  refine Wk.loadOlp (cs := [u]) (v := u) rfl rfl rem (getCells_one (by rw [Nat.mul_one, List.getElem?_append_right (by omega), hu', Nat.sub_self, List.getElem?_drop, Nat.add_zero]; exact e1)) rfl rfl rfl ?_
  (repeat first|refine goT ?_|intro b)
  refine Wk.call rfl rfl (Spl.none _) (cloneB e2 hxl (okCells_by8 _)) rfl rfl rfl ?_
  rintro v21 Z' A' hz ⟨rfl, rfl⟩
  refine Wk.knowr (x := ol 1 v21 xss[j].length (by8 xss[j])) rem (fun s h => ol.form h) ?_
  rintro ⟨a21, c21, rfl⟩
  (repeat first|refine goT ?_|intro b)
  refine Wk.iaOlp (b := bo) (vs := us' ++ us.drop j) j rem rfl rfl rfl rfl rfl rfl rfl hlt ?_
  refine Wk.storeOlp (b := bo) (vs := us' ++ us.drop j) rfl rfl rfl rfl rfl rem (by rw [Nat.mul_one]; exact set1 hu' (by omega)) rfl rfl ?_
  refine Wk.olShutr Rem.head ?_
  have hb : ∀ u, ol 1 u xss[j].length (by8 xss[j]) = ol 1 u (by8 xss[j]).length (by8 xss[j]) := fun u => by rw [by8_length]
  rw [hb]
  refine Wk.innSnocr (.r (.l (.l .nil))) ?_
  (repeat first|refine goT ?_|intro b)
  refine Wk.inv ⟨_, by omega, j + 1, us' ++ [.slice a21 xss[j].length c21], by simp [hu'], hlt, rfl, rfl, ?_, rfl, rfl, rfl, rfl, rfl, trivial⟩
  rw [List.take_succ_eq_append_getElem hlt, List.map_append]; rfl
 ·have hjd : j = xss.length := by simp at hc; omega
  subst hjd
  have e : us' ++ us.drop xss.length = us' := by rw [List.drop_eq_nil_of_le (by omega), List.append_nil]
  rw [e, List.take_length]
  (repeat first|refine goT ?_|intro b)
  refine Wk.ret ?_
  exact ⟨_, Rs.tmp rfl Rs.nil, _, Sub.refl _, rfl, us', rfl⟩
theorem clonedW {Z : Zone} {a : Int} {u : Value} {m : Nat} {vs : List Value} (h : Sl Z 1 u m vs) (hm : m ≤ 1000000) (ok : okCells vs = true) :
  Cz M (.func (.func 110) #[] #[]) [.agg ⟨[.int .i64 a, u]⟩] Z [] (fun v' Z' A' => Z = Z' ∧ ∃ b c, v' = .agg ⟨[.int .i64 a, .slice b m c]⟩ ∧ A' = [ol 1 (.slice b m c) m vs]) := by
 obtain ⟨a0, c0, rfl⟩ := h.form
 refine Cz.fn (f := Tryz.f110) (by kernel_rfl) rfl rfl rfl _ rfl ?_
 (repeat first|refine goT ?_|intro b)
 refine Wk.call rfl rfl (Spl.none _) (cloneB h hm ok) rfl rfl rfl ?_
 rintro v5 Z' A' hz ⟨rfl, rfl⟩
 refine Wk.knowr (x := ol 1 v5 m vs) rem (fun s h => ol.form h) ?_
 rintro ⟨a5, c5, rfl⟩
 (repeat first|refine goT ?_|intro b)
 refine Wk.ret ?_
 exact ⟨_, Rs.cell rfl rfl has rfl rfl Rs.nil, [ol 1 (.slice a5 m c5) m vs], by repeat (first | exact Sub.none _ | exact .keep (Sub.none _) | refine .drop ?_), rfl, a5, c5, rfl, rfl⟩
theorem set2 {us us' : List Value} {j : Nat} {x y : Value} (h : us'.length = j * 2) (hj : j * 2 + 2 ≤ us.length) : setCells (us' ++ us.drop (j * 2)) (j * 2) [x, y] = some ((us' ++ [x, y]) ++ us.drop ((j + 1) * 2)) := by
 unfold setCells
 rw [if_pos (by simp; omega)]
 rw [← h]
 have e : (j + 1) * 2 = us'.length + 2 := by omega
 rw [e]
 simp [List.drop_append]
theorem copiesW {Z : Zone} {v : Value} {us : List Value} {ws : List (Int × List Int)} (s : Sl Z 2 v ws.length us) (a : WA Z us ws) (hn : ws.length ≤ 1000000) (hx : ∀ w ∈ ws, w.2.length ≤ 1000000) :
  Cz M (.func (.func 109) #[] #[]) [v, .func (.func 110) #[] #[]] Z [] (fun v' Z' A' => ∃ us', WA Z' us' ws ∧ A' = [ol 2 v' ws.length us']) := by
 have hl := a.1
 refine Cz.fn (f := Tryz.f109) (by kernel_rfl) rfl rfl rfl _ rfl ?_
 (repeat first|refine goT ?_|intro b)
 refine Wk.call rfl rfl (Spl.none _) (cloneW s hn (ok_wa a)) rfl rfl rfl ?_
 rintro v5 Z' A' hz ⟨rfl, rfl⟩
 (repeat first|refine goT ?_|intro b)
 refine Wk.lenOl rfl rem rfl rfl rfl rfl rfl ?_
 (repeat first|refine goT ?_|intro b)
 refine Wk.loop (fun mm L Z' A' => ∃ j us', j ≤ ws.length ∧ mm = ws.length - j ∧ Ext Z Z' ∧ WA Z' us' (ws.take j) ∧ A' = [ol 2 v5 ws.length (us' ++ us.drop (j * 2))] ∧ Kp L [(1, .func (.func 110) #[] #[]), (5, v5), (10, v5), (11, .int .i64 ws.length), (12, .int .i64 j)]) ws.length ⟨0, [], by omega, rfl, Ext.refl _, WA.nil, rfl, rfl, rfl, rfl, rfl, rfl, trivial⟩ ?_
 rintro mm L Z' A' - ⟨j, us', hj, rfl, hz, hwa, rfl, hk⟩
 refine Wk.kp hk ?_
 clear hk
 have hu' : us'.length = j * 2 := by rw [hwa.1, List.length_take]; congr 1; omega
 (repeat first|refine goT ?_|intro b)
 refine Wk.cond rfl (fun hc => ?_) (fun hc => ?_)
 ·have hlt : j < ws.length := by simp at hc; omega
  obtain ⟨u, e1, e2⟩ := a.2 j hlt
  have hxl := hx _ (List.getElem_mem hlt)
  have e3 : getCells (us' ++ us.drop (j * 2)) (j * 2) 2 = some [.int .i64 ws[j].1, u] := by
   obtain ⟨k1, k2, k3⟩ := getC_some e1
   unfold getCells
   rw [if_pos (by simp; omega), ← hu', List.drop_append_of_le_length (Nat.le_refl _), List.drop_length, List.nil_append, hu', ← k2]
  obtain ⟨au, cu, rfl⟩ := e2.form
  (repeat first|refine goT ?_|intro b)
  refine Wk.olOpenr (sz := 2) (v := v5) rem (by omega) fun bo => ?_
  refine Wk.iaOlp j rem rfl rfl rfl rfl rfl rfl rfl hlt ?_
  refine Wk.loadOlp (b := bo) (cs := [.int .i64 ws[j].1, .slice au ws[j].2.length cu]) (v := .agg ⟨[.int .i64 ws[j].1, .slice au ws[j].2.length cu]⟩) rfl rfl rem e3 rfl rfl rfl ?_
  (repeat first|refine goT ?_|intro b)
  refine Wk.call rfl rfl (Spl.none _) (clonedW (e2.mono hz) hxl (okCells_by8 _)) rfl rfl rfl ?_
  rintro v21 Z' A' hz1 ⟨rfl, a21, c21, rfl, rfl⟩
  refine Wk.olFreezer (v := .slice a21 ws[j].2.length c21) rem fun Z2 hz2 h21 => ?_
  (repeat first|refine goT ?_|intro b)
  refine Wk.iaOlp (b := bo) (vs := us' ++ us.drop (j * 2)) j rem rfl rfl rfl rfl rfl rfl rfl hlt ?_
  refine Wk.storeOlp (b := bo) (vs := us' ++ us.drop (j * 2)) rfl rfl rfl rfl rfl rem (set2 hu' (by omega)) rfl rfl ?_
  refine Wk.olShutr Rem.head ?_
  refine Wk.dropr (.keep (Sub.none _)) ?_
  (repeat first|refine goT ?_|intro b)
  refine Wk.inv ⟨_, by omega, j + 1, us' ++ [.int .i64 ws[j].1, .slice a21 ws[j].2.length c21], hlt, rfl, hz.trans hz2, ?_, rfl, rfl, rfl, rfl, rfl, rfl, trivial⟩
  rw [List.take_succ_eq_append_getElem hlt]
  exact (hwa.mono hz2).snoc h21
 ·have hjd : j = ws.length := by simp at hc; omega
  subst hjd
  have e : us' ++ us.drop (ws.length * 2) = us' := by rw [List.drop_eq_nil_of_le (by omega), List.append_nil]
  rw [List.take_length] at hwa
  rw [e]
  (repeat first|refine goT ?_|intro b)
  refine Wk.ret ?_
  exact ⟨_, Rs.tmp rfl Rs.nil, _, Sub.refl _, us', hwa, rfl⟩
theorem Dk.wa {Z : Zone} {vp : Value} {ws : List (Int × List Int)} (h : Wrs Z vp ws) : ∃ us, Sl Z 2 vp ws.length us ∧ WA Z us ws := by
 obtain ⟨us, h1, h2⟩ := h
 exact ⟨us, h1, by have := h1.length; exact this, h2⟩
theorem cloned {Z : Zone} {v : Value} {d : Dsk} (h : Dk Z v d) (ht : ThinP d) :
  Cz M (.func (.func 57) #[] #[]) [v] Z [] (fun v' Z' A' => ∃ vB vP us', v' = .agg ⟨[vB, vP]⟩ ∧ A' = [inn us' (d.1.map by8)] ∧ Sl Z' 1 vB d.1.length us' ∧ Wrs Z' vP d.2) := by
 obtain ⟨vb, vp, rfl, ⟨us, s1, a1⟩, hp⟩ := h
 obtain ⟨ws, s2, a2⟩ := Dk.wa hp
 obtain ⟨t1, t2, t3, t4⟩ := ht
 refine Cz.fn (f := Tryz.f57) (by kernel_rfl) rfl rfl rfl _ rfl ?_
 (repeat first|refine goT ?_|intro b)
 refine Wk.drawr (ms := [0, 1, 3, 0, 8, 31, 63, 127]) (l := [0, 1, 3, 4, 2, 5, 6, 7]) (by kernel_rfl) (by kernel_rfl) (by kernel_rfl) rfl ?_
 (repeat first|refine goT ?_|intro b)
 refine Wk.callD rfl rfl (Spl.none _) (copiesB s1 a1 (by omega) (fun x hx => by have := t3 x hx; omega)) rfl rfl fun v5 Z' A' hz hq => ?_
 obtain ⟨rfl, us', rfl⟩ := hq
 refine ⟨?_, ?_⟩
 ·exact pnb
 refine Wk.olFreezer (v := v5) rem fun Z1 hz1 h5 => ?_
 refine Wk.call rfl rfl (Spl.none _) (copiesW (s2.mono hz1) (a2.mono hz1) (by omega) (fun x hx => by have := t4 x hx; omega)) (by kernel_rfl) rfl rfl ?_
 rintro v8 Z2 A' hz2 ⟨ws', hwa, rfl⟩
 refine Wk.olFreezer (v := v8) rem fun Z3 hz3 h8 => ?_
 replace h5 := h5.mono (hz2.trans hz3)
 obtain ⟨a5, c5, rfl⟩ := h5.form
 obtain ⟨a8, c8, rfl⟩ := h8.form
 (repeat first|refine goT ?_|intro b)
 refine Wk.ret ?_
 exact ⟨_, Rs.cell rfl rfl has rfl rfl Rs.nil, _, by repeat (first | exact Sub.none _ | exact .keep (Sub.none _) | refine .drop ?_), _, _, us', rfl, rfl, h5, Wrs.of h8 (hwa.mono hz3)⟩
def putB (b : List (List Int)) (w : Int × List Int) (k : Nat) : List (List Int) := b.set w.1.toNat (w.2.take k ++ (b[w.1.toNat]?.getD []).drop k)
def stB (d : Dsk) (f : Nat → Nat) : Nat → List (List Int)
 | 0 => d.1
 | j + 1 => putB (stB d f j) (d.2[j]?.getD (0, [])) (f j)
theorem stB_length (d : Dsk) (f : Nat → Nat) : ∀ j, (stB d f j).length = d.1.length
 | 0 => rfl
 | j + 1 => by simp [stB, putB, stB_length d f j]
theorem stB_succ {d : Dsk} {f : Nat → Nat} {j : Nat} (h : j < d.2.length) : stB d f (j + 1) = putB (stB d f j) d.2[j] (f j) := by
 rw [stB, List.getElem?_eq_getElem h]; rfl
theorem stB_rows {d : Dsk} {f : Nat → Nat} (ok : OkDisk d) (hf : ∀ i, f i ≤ 32) : ∀ j, j ≤ d.2.length → ∀ x ∈ stB d f j, x.length = 32
 | 0, _ => ok.2.2.2.1
 | j + 1, hj => by
  intro x hx
  rw [stB_succ hj, putB] at hx
  rcases List.mem_or_eq_of_mem_set hx with h | h
  ·exact stB_rows ok hf j (by omega) x h
  ·have hw := ok.2.2.2.2.2 _ (List.getElem_mem (h := hj))
   have hl := stB_length d f j
   have hk : d.2[j].1.toNat < (stB d f j).length := by omega
   have := stB_rows ok hf j (by omega) _ (List.getElem_mem hk)
   have hfj := hf j
   rw [h, List.getElem?_eq_getElem hk]
   simp [this, hw.2.2]; omega
theorem all2_map8 {Z : Zone} : ∀ {us : List Value} {xss : List (List Int)}, All2 (fun u vs => Sl Z 1 u vs.length vs) us (xss.map by8) → All2 (fun u xs => Sl Z 1 u xs.length (by8 xs)) us xss
 | [], [], _ => .nil
 | _ :: _, _ :: _, .cons h k => .cons (by rw [by8_length] at h; exact h) (all2_map8 k)
theorem done {Z : Zone} {v fv : Value} {d : Dsk} {f : Nat → Nat} (h : Dk Z v d) (ok : OkDisk d) (hf : ∀ Z', Ext Z Z' → ∀ i, i < d.2.length → Cz M fv [.int .i64 i] Z' [] (fun v' Z'' A' => v' = .int .i64 (f i : Nat) ∧ Z' = Z'' ∧ A' = [])) (hf32 : ∀ i, f i ≤ 32) :
  Cz M (.func (.func 96) #[] #[]) [v, fv] Z [] (fun v' Z' A' => Dk Z' v' (stB d f d.2.length, []) ∧ A' = []) := by
 have hcl := cloned h ⟨by have := ok.2.2.1; omega, by have := ok.2.2.2.2.1; omega, fun x hx => by have := ok.2.2.2.1 x hx; omega, fun w hw => by have := ok.2.2.2.2.2 w hw; omega⟩
 obtain ⟨vb, vp, rfl, hb, hp⟩ := h
 have ok' := ok
 obtain ⟨o1, o2, o3, o4, o5, o6⟩ := ok
 refine Cz.fn (f := Tryz.f96) (by kernel_rfl) rfl rfl rfl _ rfl ?_
 (repeat first|refine goT ?_|intro b)
 refine Wk.call rfl rfl (Spl.none _) (hcl) rfl rfl rfl ?_
 rintro v9 Z1 A' hz1 ⟨vB, vP, us, rfl, rfl, hB, hW⟩
 obtain ⟨ws, s2, a2⟩ := Dk.wa hW
 obtain ⟨aB, cB, rfl⟩ := hB.form
 obtain ⟨aP, cP, rfl⟩ := s2.form
 (repeat first|refine goT ?_|intro b)
 refine Wk.loop (fun mm L Z' A' => ∃ j, j ≤ d.2.length ∧ mm = d.2.length - j ∧ Ext Z1 Z' ∧ A' = [pt _ (.cells [.slice aB d.1.length cB, .slice aP d.2.length cP] true 0), inn us ((stB d f j).map by8), pt _ (.cells [.slice none 0 0, .slice none 0 0] true 0), pt _ (.cells [vb, vp] true 0)] ∧ Kp L [(1, fv), (4, .pointer (some ⟨_, 0, none⟩)), (5, .pointer (some ⟨_, 0, none⟩)), (11, .slice aP d.2.length cP), (12, .int .i64 d.2.length), (13, .int .i64 j)]) d.2.length ⟨0, by omega, rfl, Ext.refl _, rfl, rfl, rfl, rfl, rfl, rfl, rfl, trivial⟩ ?_
 rintro mm L Z' A' - ⟨j, hj, rfl, hz2, rfl, hk⟩
 refine Wk.kp hk ?_
 clear hk
 have hB' := hB.mono hz2
 have s2' := s2.mono hz2
 have hlen := stB_length d f j
 have hul := hB.length
 (repeat first|refine goT ?_|intro b)
 refine Wk.cond rfl (fun hc => ?_) (fun hc => ?_)
 ·have hlt : j < d.2.length := by simp at hc; omega
  obtain ⟨u0, e1, e2⟩ := a2.2 j hlt
  replace e2 := e2.mono hz2
  obtain ⟨w1, w2, w3⟩ := o6 _ (List.getElem_mem hlt)
  obtain ⟨k, hk⟩ : ∃ k : Nat, d.2[j].1 = (k : Int) := ⟨d.2[j].1.toNat, by omega⟩
  have hkn : k < d.1.length := by omega
  have hks : k < (stB d f j).length := by omega
  have hrow := stB_rows (f := f) ok' hf32 j hj _ (List.getElem_mem hks)
  obtain ⟨u, hu⟩ : ∃ u, us[k]? = some u := ⟨_, List.getElem?_eq_getElem (by omega)⟩
  have hfj := hf32 j
  rw [hk] at e1
  obtain ⟨a0, c0, rfl⟩ := e2.form
  (repeat first|refine goT ?_|intro b)
  refine Wk.iaSl j s2' rfl rfl rfl rfl rfl rfl rfl hlt e1 fun b16 off16 hp16 => ?_
  (repeat first|refine goT ?_|intro b)
  refine Wk.drawr (ms := [0, 1, 0, 4, 15, 31, 0, 64, 0, 0, 768, 1984, 4095]) (l := [0, 1, 2, 3, 4, 5, 6, 7, 8, 9, 10, 11, 12]) (by kernel_rfl) (by kernel_rfl) (by kernel_rfl) rfl ?_
  refine Wk.innOpenr k rem hu (by rw [List.getElem?_map, List.getElem?_eq_getElem hks]; rfl) ?_
  refine Wk.knowr Rem.head (fun s h => ol.form h) ?_
  rintro ⟨au, cu, rfl⟩
  (repeat first|refine goT ?_|intro b)
  refine Wk.iaSl k hB' rfl rfl rfl rfl rfl rfl rfl hkn (getCells_one (by rw [Nat.mul_one]; exact hu)) fun b22 off22 hp22 => ?_
  (repeat first|refine goT ?_|intro b)
  refine Wk.callD rfl rfl (Spl.none _) (hf _ (hz1.trans hz2) j hlt) rfl rfl fun v28 Z'' A'' hz'' hq => ?_
  obtain ⟨rfl, rfl, rfl⟩ := hq
  refine ⟨?_, ?_⟩
  ·exact pnb
  (repeat first|refine goT ?_|intro b)
  refine Wk.sliceSl (l := 0) (h := f j) e2 rfl rfl rfl rfl rfl rfl rfl rfl rfl rfl rfl ⟨rfl, rfl, by omega, by omega, trivial⟩ fun v29 h29 => ?_
  have e29 : ((by8 d.2[j].2).drop (0 * 1)).take ((f j - 0) * 1) = by8 (d.2[j].2.take (f j)) := by simp [by8_take]
  rw [e29] at h29
  refine Wk.copy rfl rfl rfl rfl rfl rfl rem (Src.sl h29) (okCells_by8 _) (by rw [by8_length, List.length_take]; omega) (by kernel_rfl) rfl rfl ?_
  have hmin : Nat.min (f j - 0) (by8 (stB d f j)[k]).length = f j := by rw [by8_length, hrow]; exact Nat.min_eq_left hfj
  have hvs : (by8 (d.2[j].2.take (f j))).take (Nat.min (f j - 0) (by8 (stB d f j)[k]).length * 1) ++ (by8 (stB d f j)[k]).drop (Nat.min (f j - 0) (by8 (stB d f j)[k]).length * 1) = by8 (d.2[j].2.take (f j) ++ (stB d f j)[k].drop (f j)) := by
   rw [hmin, Nat.mul_one, by8_append, by8_drop, by8_take, List.take_take, Nat.min_self]
  have hln : (by8 (stB d f j)[k]).length = (by8 (d.2[j].2.take (f j) ++ (stB d f j)[k].drop (f j))).length := by
   simp only [by8_length, List.length_append, List.length_take, List.length_drop]; omega
  rw [hvs]
  rw [show ∀ u vs, ol 1 u (by8 (stB d f j)[k]).length vs = ol 1 u (by8 (d.2[j].2.take (f j) ++ (stB d f j)[k].drop (f j))).length vs from fun u vs => by rw [hln]]
  refine Wk.innCloser k (.l (.l (Spl.none _))) ?_
  have hst : ((stB d f j).map by8).set k (by8 (d.2[j].2.take (f j) ++ (stB d f j)[k].drop (f j))) = (stB d f (j + 1)).map by8 := by
   rw [stB_succ hlt, putB, hk, Int.toNat_natCast, List.getElem?_eq_getElem hks, List.map_set]; rfl
  rw [hst]
  refine Wk.alterr (x := pt _ (.cells [.slice aB d.1.length cB, .slice aP d.2.length cP] true 0)) (C := [pt _ (.cells [.slice aB d.1.length cB, .slice aP d.2.length cP] true 0)]) rem (fun s h => Sat.one h) ?_
  refine Wk.dropr (.keep (.keep (.drop (Sub.refl _)))) ?_
  (repeat first|refine goT ?_|intro b)
  exact Wk.inv ⟨_, by omega, j + 1, hlt, rfl, hz2, rfl, rfl, rfl, rfl, rfl, rfl, rfl, trivial⟩
 ·have hjd : j = d.2.length := by simp at hc; omega
  subst hjd
  (repeat first|refine goT ?_|intro b)
  refine Wk.innFreeze rem fun Z2 hz3 hall => ?_
  refine Wk.ret ?_
  exact ⟨_, Rs.cell rfl rfl has rfl rfl Rs.nil, _, Sub.none _, ⟨_, _, rfl, ⟨us, by rw [stB_length]; exact hB'.mono hz3, all2_map8 hall⟩, [], Sl.nil, fun i h => by cases h⟩, rfl⟩
theorem Dk.nil {Z : Zone} : Dk Z (.agg ⟨[.slice none 0 0, .slice none 0 0]⟩) ([], []) := ⟨_, _, rfl, ⟨[], Sl.nil, .nil⟩, [], Sl.nil, fun i h => by cases h⟩
theorem Dk.form {Z : Zone} {v : Value} {d : Dsk} (h : Dk Z v d) : ∃ a1 m1 c1 a2 m2 c2, v = .agg ⟨[.slice a1 m1 c1, .slice a2 m2 c2]⟩ := by
 obtain ⟨vb, vp, rfl, ⟨us, s1, _⟩, ⟨ws, s2, _⟩⟩ := h
 obtain ⟨a, b, rfl⟩ := s1.form
 obtain ⟨c, e, rfl⟩ := s2.form
 exact ⟨_, _, _, _, _, _, rfl⟩
theorem IsDisk {Z : Zone} {v : Value} {d : Dsk} (h : Dk Z v d) (ht : ThinP d) : Cz M (.func (.func 20) #[] #[]) [v] Z [] (fun v' Z' A' => BoolIs v' (OkDisk d) ∧ Z = Z' ∧ A' = []) := by
 obtain ⟨vb, vp, rfl, ⟨us, s1, a1⟩, hp⟩ := h
 obtain ⟨ws, s2, a2⟩ := Dk.wa hp
 obtain ⟨t1, t2, t3, t4⟩ := ht
 have no : ∀ {Z' : Zone}, ¬ OkDisk d → BoolIs (outOf [.bool false]) (OkDisk d) := fun h => ⟨false, rfl, by simp; exact h⟩
 refine Cz.fn (f := Tryz.f20) (by kernel_rfl) rfl rfl rfl _ rfl ?_
 (repeat first|refine goT ?_|intro b)
 refine Wk.caser 13 rfl (fun hc => ?_) (fun hc => ?_)
 ·(repeat first|refine goT ?_|intro b)
  refine Wk.ret ?_
  exact ⟨_, Rs.tmp rfl Rs.nil, _, Sub.none _, no (Z' := Z) fun h => by simp at hc; have := h.1; omega, rfl, rfl⟩
 (repeat first|refine goT ?_|intro b)
 refine Wk.call rfl rfl (Spl.none _) (In _ _ _) rfl rfl rfl ?_
 rintro v16 Z1 A' hz1 ⟨rfl, rfl, rfl⟩
 (repeat first|refine goT ?_|intro b)
 refine Wk.caser 19 rfl (fun he => ?_) (fun he => ?_)
 ·(repeat first|refine goT ?_|intro b)
  refine Wk.ret ?_
  exact ⟨_, Rs.tmp rfl Rs.nil, _, Sub.none _, no (Z' := Z) fun h => by simp at he; have := h.2.1; have := h.2.2.1; omega, rfl, rfl⟩
 (repeat first|refine goT ?_|intro b)
 refine Wk.cond rfl (fun hf => ?_) (fun hf => ?_)
 ·(repeat first|refine goT ?_|intro b)
  refine Wk.ret ?_
  exact ⟨_, Rs.tmp rfl Rs.nil, _, Sub.none _, no (Z' := Z) fun h => by simp at hf; have := h.2.2.2.2.1; omega, rfl, rfl⟩
 (repeat first|refine goT ?_|intro b)
 refine Wk.loop (fun mm L Z' A' => ∃ j, j ≤ d.1.length ∧ mm = d.1.length - j ∧ Z = Z' ∧ A' = [pt _ (.cells [vb, vp] true 0)] ∧ (∀ i (h : i < d.1.length), i < j → d.1[i].length = 32) ∧ Kp L [(1, .pointer (some ⟨_, 0, none⟩)), (3, .int .i64 d.1.length), (4, .int .i64 j)]) d.1.length ⟨0, by omega, rfl, rfl, rfl, fun i _ h => by omega, rfl, rfl, rfl, trivial⟩ ?_
 rintro mm L Z' A' - ⟨j, hj, rfl, rfl, rfl, hall, hk⟩
 refine Wk.kp hk ?_
 clear hk
 (repeat first|refine goT ?_|intro b)
 refine Wk.cond rfl (fun hg => ?_) (fun hg => ?_)
 ·have hlt : j < d.1.length := by simp at hg; omega
  obtain ⟨u, e1, e2⟩ := a1.getElem hlt
  (repeat first|refine goT ?_|intro b)
  refine Wk.iaSl j s1 rfl rfl rfl rfl rfl rfl rfl hlt (getCells_one (by rw [Nat.mul_one]; exact e1)) fun b off hp => ?_
  (repeat first|refine goT ?_|intro b)
  refine Wk.cond rfl (fun hi => ?_) (fun hi => ?_)
  ·(repeat first|refine goT ?_|intro b)
   refine Wk.ret ?_
   exact ⟨_, Rs.tmp rfl Rs.nil, _, Sub.none _, no (Z' := Z) (fun h => by simp at hi; have := h.2.2.2.1 _ (List.getElem_mem hlt); omega), rfl, rfl⟩
  ·have h32 : d.1[j].length = 32 := by simp at hi; omega
   (repeat first|refine goT ?_|intro b)
   refine Wk.inv ⟨_, by omega, j + 1, hlt, rfl, rfl, rfl, fun i hi h => ?_, rfl, rfl, rfl, trivial⟩
   by_cases e : i = j
   ·subst e; exact h32
   ·exact hall i hi (by omega)
 have hbl : ∀ x ∈ d.1, x.length = 32 := fun x hx => by
  obtain ⟨i, hi, rfl⟩ := List.getElem_of_mem hx
  exact hall i hi (by simp at hg; omega)
 (repeat first|refine goT ?_|intro b)
 refine Wk.loop (fun mm L Z' A' => ∃ j, j ≤ d.2.length ∧ mm = d.2.length - j ∧ Z = Z' ∧ A' = [pt _ (.cells [vb, vp] true 0)] ∧ (∀ i (h : i < d.2.length), i < j → 0 ≤ d.2[i].1 ∧ d.2[i].1 < d.1.length ∧ d.2[i].2.length = 32) ∧ Kp L [(1, .pointer (some ⟨_, 0, none⟩)), (3, .int .i64 d.1.length), (5, .int .i64 j)]) d.2.length ⟨0, by omega, rfl, rfl, rfl, fun i _ h => by omega, rfl, rfl, rfl, trivial⟩ ?_
 rintro mm L Z' A' - ⟨j, hj, rfl, rfl, rfl, hall2, hk⟩
 refine Wk.kp hk ?_
 clear hk
 (repeat first|refine goT ?_|intro b)
 refine Wk.cond rfl (fun hg => ?_) (fun hg => ?_)
 ·have hlt : j < d.2.length := by simp at hg; omega
  obtain ⟨u, e1, e2⟩ := a2.2 j hlt
  obtain ⟨au, cu, rfl⟩ := e2.form
  (repeat first|refine goT ?_|intro b)
  refine Wk.iaSl j s2 rfl rfl rfl rfl rfl rfl rfl hlt e1 fun b off hp => ?_
  (repeat first|refine goT ?_|intro b)
  refine Wk.call rfl rfl (Spl.none _) (In _ _ _) rfl rfl rfl ?_
  rintro v53 Z1 A' hz1 ⟨rfl, rfl, rfl⟩
  (repeat first|refine goT ?_|intro b)
  refine Wk.caser 55 rfl (fun hi => ?_) (fun hi => ?_)
  ·(repeat first|refine goT ?_|intro b)
   refine Wk.ret ?_
   exact ⟨_, Rs.tmp rfl Rs.nil, _, Sub.none _, no (Z' := Z) (fun h => by simp at hi; have := h.2.2.2.2.2 _ (List.getElem_mem hlt); omega), rfl, rfl⟩
  (repeat first|refine goT ?_|intro b)
  refine Wk.cond rfl (fun hi2 => ?_) (fun hi2 => ?_)
  ·(repeat first|refine goT ?_|intro b)
   refine Wk.ret ?_
   exact ⟨_, Rs.tmp rfl Rs.nil, _, Sub.none _, no (Z' := Z) (fun h => by simp at hi2; have := h.2.2.2.2.2 _ (List.getElem_mem hlt); omega), rfl, rfl⟩
  ·refine Wk.drop (B := [pt _ (.cells [vb, vp] true 0)]) (.drop (.keep (Sub.refl _))) ?_
   (repeat first|refine goT ?_|intro b)
   refine Wk.inv ⟨_, by omega, j + 1, hlt, rfl, rfl, rfl, fun i hi' h => ?_, rfl, rfl, rfl, trivial⟩
   by_cases e : i = j
   ·subst e; simp at hi hi2; omega
   ·exact hall2 i hi' (by omega)
 ·(repeat first|refine goT ?_|intro b)
  refine Wk.ret ?_
  refine ⟨_, Rs.tmp rfl Rs.nil, _, Sub.none _, ⟨true, rfl, ?_⟩, rfl, rfl⟩
  simp only [true_iff]
  simp at hc he hf
  refine ⟨by omega, by omega, by omega, hbl, by omega, fun w hw => ?_⟩
  obtain ⟨i, hi, rfl⟩ := List.getElem_of_mem hw
  exact hall2 i hi (by simp at hg; omega)
theorem copyDisk2 {Z : Zone} {v : Value} {d : Dsk} (h : Dk Z v d) (ht : ThinP d) : Cz M (.func (.func 15) #[] #[]) [v] Z [] (fun v' Z' A' => ∃ vB vP us' ps', v' = .agg ⟨[vB, vP]⟩ ∧ A' = [ol 2 vP d.2.length ps', ol 1 vB d.1.length us'] ∧ All2 (fun u xs => Sl Z' 1 u xs.length (by8 xs)) us' d.1 ∧ WA Z' ps' d.2) := by
 obtain ⟨vb, vp, rfl, ⟨us, s1, a1⟩, ⟨ws, s2, a2⟩⟩ := h
 obtain ⟨t1, t2, t3, t4⟩ := ht
 refine Cz.fn (f := Tryz.f15) (by kernel_rfl) rfl rfl rfl _ rfl ?_
 (repeat first|refine goT ?_|intro b)
 refine Wk.olNil 1 ?_
 refine Wk.loop (fun mm L Z' A' => ∃ j vB us', j ≤ d.1.length ∧ mm = d.1.length - j ∧ Ext Z Z' ∧ A' = [ol 1 vB j us', pt _ (.cells [vB, .slice none 0 0] true 0), pt _ (.cells [.slice none 0 0, .slice none 0 0] true 0), pt _ (.cells [vb, vp] true 0)] ∧
  All2 (fun u xs => Sl Z' 1 u xs.length (by8 xs)) us' (d.1.take j) ∧ Kp L [(1, .pointer (some ⟨_, 0, none⟩)), (2, .pointer (some ⟨_, 0, none⟩)), (3, .pointer (some ⟨_, 0, none⟩)), (4, .int .i64 j)]) d.1.length ⟨0, _, [], by omega, rfl, Ext.refl _, rfl, .nil, rfl, rfl, rfl, rfl, trivial⟩ ?_
 rintro mm L Z' A' - ⟨j, vB, us', hj, rfl, hz, rfl, hall, hk⟩
 refine Wk.kp hk ?_
 clear hk
 have s1' := s1.mono hz
 (repeat first|refine goT ?_|intro b)
 refine Wk.cond rfl (fun hc => ?_) (fun hc => ?_)
 ·have hlt : j < d.1.length := by simp at hc; omega
  obtain ⟨u, e1, e2⟩ := a1.getElem hlt
  replace e2 := e2.mono hz
  have h40 := t3 _ (List.getElem_mem hlt)
  (repeat first|refine goT ?_|intro b)
  refine Wk.drawr (ms := [0, 1, 0, 0, 8, 0, 56, 120, 252, 508, 1023, 2047, 4095]) (l := [0, 1, 2, 3, 4, 5, 6, 7, 8, 9, 10, 11, 12]) (by kernel_rfl) (by kernel_rfl) (by kernel_rfl) rfl ?_
  refine Wk.knowr (x := ol 1 vB j us') rem (fun s h => ol.form h) ?_
  rintro ⟨aB, cB, rfl⟩
  (repeat first|refine goT ?_|intro b)
  refine Wk.bs rfl rfl rfl rfl rfl rfl rfl fun b16 => ?_
  (repeat first|refine goT ?_|intro b)
  refine Wk.iaSl j s1' rfl rfl rfl rfl rfl rfl rfl hlt (getCells_one (by simpa using e1)) fun b off hp => ?_
  (repeat first|refine goT ?_|intro b)
  refine Wk.alterr (C := [ol 1 (.slice (some ⟨b16, 0, none⟩) 0 0) 0 []]) rem (fun s h => ol_of_pt (m := 0) (vs := []) (g := 0) rfl (.inl rfl) rfl h) ?_
  refine Wk.appendD rfl rfl rfl rfl rfl rfl rfl rfl Rem.head (Src.sl e2) rfl (okCells_by8 _) (by rw [by8_length]; omega) (by omega) (by omega) rfl rfl fun v22 => ⟨?_, ?_⟩
  ·exact pnb
  refine Wk.olFreezer Rem.head fun Z1 hz1 h22 => ?_
  simp only [List.nil_append, Nat.zero_add] at h22
  refine Wk.bs (cs := [v22]) rfl rfl rfl rfl rfl rfl (by simp [fillL, putAt, repCells, h22.cellsL]) fun b23 => ?_
  refine Wk.append (kk := 1) (new := [v22]) rfl rfl rfl rfl rfl rfl rfl rfl rem (Src.lit has rfl) rfl (by obtain ⟨_, _, rfl⟩ := h22.form; rfl) rfl (by omega) (by omega) (by kernel_rfl) rfl rfl fun v24 => ?_
  refine Wk.dropr (.keep (.drop (Sub.refl _))) ?_
  refine Wk.knowr (x := ol 1 v24 (j + 1) (us' ++ [v22])) rem (fun s h => ol.form h) ?_
  rintro ⟨a24, c24, rfl⟩
  (repeat first|refine goT ?_|intro b)
  refine Wk.inv ⟨_, by omega, j + 1, _, us' ++ [v22], hlt, rfl, hz.trans hz1, rfl, ?_, rfl, rfl, rfl, rfl, trivial⟩
  rw [List.take_succ_eq_append_getElem hlt]
  exact (hall.mono fun _ _ q => q.mono hz1).snoc h22
 ·have hjd : j = d.1.length := by simp at hc; omega
  subst hjd
  rw [List.take_length] at hall
  have s2' := s2.mono hz
  (repeat first|refine goT ?_|intro b)
  refine Wk.olNil 2 ?_
  refine Wk.loop (fun mm L Z'' A' => ∃ j vP ps', j ≤ d.2.length ∧ mm = d.2.length - j ∧ Ext Z' Z'' ∧ A' = [ol 2 vP j ps', ol 1 vB d.1.length us', pt _ (.cells [vB, vP] true 0), pt _ (.cells [.slice none 0 0, .slice none 0 0] true 0), pt _ (.cells [vb, vp] true 0)] ∧
   WA Z'' ps' (d.2.take j) ∧ Kp L [(1, .pointer (some ⟨_, 0, none⟩)), (2, .pointer (some ⟨_, 0, none⟩)), (3, .pointer (some ⟨_, 0, none⟩)), (5, .int .i64 j)]) d.2.length ⟨0, _, [], by omega, rfl, Ext.refl _, rfl, WA.nil, rfl, rfl, rfl, rfl, trivial⟩ ?_
  rintro mm L Z'' A' - ⟨j, vP, ps', hj, rfl, hz', rfl, hwa, hk⟩
  refine Wk.kp hk ?_
  clear hk
  have s2'' := s2'.mono hz'
  (repeat first|refine goT ?_|intro b)
  refine Wk.cond rfl (fun hc => ?_) (fun hc => ?_)
  ·have hlt : j < d.2.length := by simp at hc; omega
   obtain ⟨u, e1, e2⟩ := a2 j hlt
   replace e2 := e2.mono (hz.trans hz')
   have h40 := t4 _ (List.getElem_mem hlt)
   (repeat first|refine goT ?_|intro b)
   refine Wk.drawr (ms := [0, 1, 0, 4, 0, 28, 60, 124, 0, 0, 512, 0, 3584, 7680, 15872, 32512, 65532, 131068, 262143, 524287, 1048575]) (l := [0, 1, 2, 3, 4, 5, 6, 7, 8, 9, 10, 11, 12, 13, 14, 15, 16, 17, 18, 19, 20]) (by kernel_rfl) (by kernel_rfl) (by kernel_rfl) rfl ?_
   refine Wk.knowr (x := ol 2 vP j ps') rem (fun s h => ol.form h) ?_
   rintro ⟨aP, cP, rfl⟩
   (repeat first|refine goT ?_|intro b)
   refine Wk.iaSl j s2'' rfl rfl rfl rfl rfl rfl rfl hlt e1 fun b off hp => ?_
   (repeat first|refine goT ?_|intro b)
   refine Wk.bs rfl rfl rfl rfl rfl rfl rfl fun b41 => ?_
   (repeat first|refine goT ?_|intro b)
   refine Wk.iaSl j s2'' rfl rfl rfl rfl rfl rfl rfl hlt e1 fun b' off' hp' => ?_
   (repeat first|refine goT ?_|intro b)
   refine Wk.loadP rfl rfl hp' rfl rfl rfl rfl ?_
   refine Wk.alterr (C := [ol 1 (.slice (some ⟨b41, 0, none⟩) 0 0) 0 []]) rem (fun s h => ol_of_pt (m := 0) (vs := []) (g := 0) rfl (.inl rfl) rfl h) ?_
   refine Wk.appendD rfl rfl rfl rfl rfl rfl rfl rfl Rem.head (Src.sl e2) rfl (okCells_by8 _) (by rw [by8_length]; omega) (by omega) (by omega) rfl rfl fun v48 => ⟨?_, ?_⟩
   ·(repeat (first | exact PnAll.done | refine PnAll.two ?_ | refine PnAll.skip rfl ?_ | refine PnAll.keep (Rd.loadL rfl rfl has rfl rfl) (veq_slice _ _ _) ?_ | refine PnAll.keep (Rd.loadL rfl rfl has rfl rfl) (Sl.veq (by assumption)) ?_ | refine PnAll.keep (Rd.loadP rfl rfl hp rfl rfl) (veq_int _ _) ?_))
   refine Wk.olFreezer Rem.head fun Z1 hz1 h48 => ?_
   simp only [List.nil_append, Nat.zero_add] at h48
   obtain ⟨a48, c48, rfl⟩ := h48.form
   (repeat first|refine goT ?_|intro b)
   refine Wk.bs (cs := [.int .i64 d.2[j].1, _]) rfl rfl rfl rfl rfl rfl rfl fun b50 => ?_
   refine Wk.append (kk := 1) (new := [.int .i64 d.2[j].1, .slice a48 d.2[j].2.length c48]) rfl rfl rfl rfl rfl rfl rfl rfl rem (Src.lit has rfl) rfl rfl rfl (by omega) (by omega) (by kernel_rfl) rfl rfl fun v51 => ?_
   refine Wk.dropr (.keep (.drop (Sub.refl _))) ?_
   refine Wk.knowr (x := ol 2 v51 (j + 1) (ps' ++ [.int .i64 d.2[j].1, .slice a48 d.2[j].2.length c48])) rem (fun s h => ol.form h) ?_
   rintro ⟨a24, c24, rfl⟩
   (repeat first|refine goT ?_|intro b)
   refine Wk.inv ⟨_, by omega, j + 1, _, ps' ++ [.int .i64 d.2[j].1, .slice a48 d.2[j].2.length c48], hlt, rfl, hz'.trans hz1, rfl, ?_, rfl, rfl, rfl, rfl, trivial⟩
   rw [List.take_succ_eq_append_getElem hlt]
   exact (hwa.mono hz1).snoc h48
  ·have hjd : j = d.2.length := by simp at hc; omega
   subst hjd
   rw [List.take_length] at hwa
   (repeat first|refine goT ?_|intro b)
   refine Wk.knowr (x := ol 2 vP d.2.length ps') rem (fun s h => ol.form h) ?_
   rintro ⟨aP, cP, rfl⟩
   refine Wk.knowr (x := ol 1 vB d.1.length us') rem (fun s h => ol.form h) ?_
   rintro ⟨aB, cB, rfl⟩
   (repeat first|refine goT ?_|intro b)
   refine Wk.ret ?_
   refine ⟨_, Rs.cell rfl rfl has rfl rfl Rs.nil, [ol 2 (.slice aP d.2.length cP) d.2.length ps', ol 1 (.slice aB d.1.length cB) d.1.length us'], by repeat (first | exact Sub.refl _ | exact .keep (.keep (Sub.none _)) | refine .drop ?_), _, _, us', ps', rfl, rfl, ?_, ?_⟩
   ·exact hall.mono fun _ _ q => q.mono hz'
   ·exact hwa
theorem cloned2 {Z : Zone} {v : Value} {d : Dsk} (h : Dk Z v d) (ht : ThinP d) :
  Cz M (.func (.func 57) #[] #[]) [v] Z [] (fun v' Z' A' => ∃ vB vP us' ps', v' = .agg ⟨[vB, vP]⟩ ∧ A' = [ol 2 vP d.2.length ps', inn us' (d.1.map by8)] ∧ Sl Z' 1 vB d.1.length us' ∧ WA Z' ps' d.2) := by
 obtain ⟨vb, vp, rfl, ⟨us, s1, a1⟩, hp⟩ := h
 obtain ⟨ws, s2, a2⟩ := Dk.wa hp
 obtain ⟨t1, t2, t3, t4⟩ := ht
 refine Cz.fn (f := Tryz.f57) (by kernel_rfl) rfl rfl rfl _ rfl ?_
 (repeat first|refine goT ?_|intro b)
 refine Wk.drawr (ms := [0, 1, 3, 0, 8, 31, 63, 127]) (l := [0, 1, 3, 4, 2, 5, 6, 7]) (by kernel_rfl) (by kernel_rfl) (by kernel_rfl) rfl ?_
 (repeat first|refine goT ?_|intro b)
 refine Wk.callD rfl rfl (Spl.none _) (copiesB s1 a1 (by omega) (fun x hx => by have := t3 x hx; omega)) rfl rfl fun v5 Z' A' hz hq => ?_
 obtain ⟨rfl, us', rfl⟩ := hq
 refine ⟨?_, ?_⟩
 ·exact pnb
 refine Wk.olFreezer (v := v5) rem fun Z1 hz1 h5 => ?_
 refine Wk.call rfl rfl (Spl.none _) (copiesW (s2.mono hz1) (a2.mono hz1) (by omega) (fun x hx => by have := t4 x hx; omega)) (by kernel_rfl) rfl rfl ?_
 rintro v8 Z2 A' hz2 ⟨ws', hwa, rfl⟩
 refine Wk.knowr (x := ol 2 v8 d.2.length ws') rem (fun s h => ol.form h) ?_
 rintro ⟨a8, c8, rfl⟩
 replace h5 := h5.mono hz2
 obtain ⟨a5, c5, rfl⟩ := h5.form
 (repeat first|refine goT ?_|intro b)
 refine Wk.ret ?_
 exact ⟨_, Rs.cell rfl rfl has rfl rfl Rs.nil, [ol 2 (.slice a8 d.2.length c8) d.2.length ws', inn us' (d.1.map by8)], by repeat (first | exact Sub.refl _ | exact .keep (.keep (Sub.none _)) | refine .drop ?_), _, _, us', ws', rfl, rfl, h5, hwa⟩
end Go.Proofs.J
