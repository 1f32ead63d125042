/- EA -/
import Derived.Test.YtlmmgebealakkaaGreatDoorOK
import Derived.Test.YtlmmgebealakkaaGreatDoorPL
import Derived.Test.YtlmmgebealakkaaGreatDoorEvF
import Derived.Test.YtlmmgebealakkaaGreatDoorOA
/- Elements: copies, likeness, size. -/
namespace Go.Proofs.J
open Go.Ev Go
set_option linter.unusedVariables false
set_option maxHeartbeats 4000000
theorem copyEl : ∀ (d : Nat) {s : El} {Z : Zone} {cs : List Value}, s.Fit d → ElR Z s cs →
    Cz M (.func (.func 18) #[] #[]) [.agg ⟨cs⟩] Z [] (fun v' Z' A' => ∃ cs', v' = .agg ⟨cs'⟩ ∧ ElR Z' s cs' ∧ A' = [])
  | 0, s, Z, cs, ht, h => ht.pos.elim
  | d + 1, s, Z, cs, ht, h => by
    obtain ⟨a0, c0, a, c, us, rfl, hk0, hs, hL⟩ := h.form
    have t1 := ht.sm.1
    have t2 := ht.sm.2.1
    refine Cz.fn (f := Tryz.f18) (by kernel_rfl) rfl rfl rfl _ rfl ?_
    (repeat (first | refine go ?_ | with_reducible intro _))
    rename_i b1 b2
    refine Wk.drawr (ms := [0, 1, 0, 4, 0, 0, 32, 112, 255, 0, 1023]) (l := [0, 1, 2, 3, 4, 5, 6, 9, 7, 8, 10]) (by kernel_rfl) (by kernel_rfl) (by kernel_rfl) rfl ?_
    (repeat (first | refine go ?_ | with_reducible intro _))
    refine Wk.bs rfl rfl rfl rfl rfl rfl rfl fun b9 => ?_
    (repeat (first | refine go ?_ | with_reducible intro _))
    rename_i b3
    refine Wk.alterr (x := pt b9 _) (C := [ol 1 (.slice (some ⟨b9, 0, none⟩) 0 0) 0 []]) (by repeat (first | exact Rem.head | apply Rem.tail)) (fun s h => ol_of_pt (m := 0) (vs := []) (g := 0) rfl (.inl rfl) rfl h) ?_
    refine Wk.appendD rfl rfl rfl rfl rfl rfl rfl rfl Rem.head (Src.sl hk0) rfl (okCells_int _) (by simp) (by omega) (by omega) rfl rfl fun v12 => ⟨?_, ?_⟩
    · (repeat (first | exact PnAll.done | refine PnAll.two ?_ | refine PnAll.skip rfl ?_ | refine PnAll.keep (Rd.loadL rfl rfl (by first | exact Or.inl (by assumption) | (refine Or.inr ?_; repeat (first | exact List.Mem.head _ | refine List.Mem.tail _ ?_))) rfl rfl) (by first | exact veq_slice _ _ _ | exact veq_int _ _ | exact Sl.veq (by assumption)) ?_ | refine PnAll.keep (Rd.loadP (o := 0) rfl rfl (by assumption) rfl rfl) (by first | exact veq_slice _ _ _ | exact veq_int _ _ | exact Sl.veq (by assumption)) ?_))
    first | apply Wk.olFreezer (v := v12) | apply Wk.olFreeze (v := v12)
    case p => repeat (first | exact Rem.head | apply Rem.tail)
    intro Z1 e1 h12
    obtain ⟨a12, c12, rfl⟩ := h12.form
    simp only [List.nil_append, Nat.zero_add] at h12
    (repeat (first | refine go ?_ | with_reducible intro _))
    refine Wk.store rfl rfl rfl rfl rfl (by repeat (first | exact Upd.head | apply Upd.tail)) rfl (by kernel_rfl) rfl ?_
    (repeat (first | refine go ?_ | with_reducible intro _))
    refine Wk.olNil 4 ?_
    refine Wk.loop (fun mm L Z' A' => ∃ (j : Nat) (vk : Value) (ks : List Value), j ≤ s.kids.length ∧ mm = s.kids.length - j ∧ Ext Z1 Z' ∧ A' = [ol 4 vk j ks, pt b3 (.cells [.int .u8 s.kind, .int .i64 s.n, .slice a12 (0 + s.keys.length) c12, vk] true 0), pt b2 _, pt b1 (.cells [.int .u8 s.kind, .int .i64 s.n, .slice a0 s.keys.length c0, .slice a s.kids.length c] true 0)] ∧
      ElRL Z' (s.kids.take j) ks ∧ Kp L [(1, .pointer (some ⟨b1, 0, none⟩)), (2, .pointer (some ⟨b2, 0, none⟩)), (3, .pointer (some ⟨b3, 0, none⟩)), (4, .int .i64 j)]) s.kids.length ⟨0, _, [], Nat.zero_le _, rfl, Ext.refl _, rfl, by simp [ElRL], (by repeat (first | exact trivial | refine And.intro rfl ?_ | refine And.intro (kpI rfl (by omega)) ?_))⟩ ?_
    rintro mm L Z' A' - ⟨j, vk, ks, hj, rfl, hz, rfl, hks, hk⟩
    refine Wk.kp hk ?_
    clear hk
    have hs' := hs.mono (e1.trans hz)
    (repeat (first | refine go ?_ | with_reducible intro _))
    refine Wk.cond rfl (fun hc => ?_) (fun hc => ?_)
    · have hlt : j < s.kids.length := by simp at hc; omega
      clear hc
      obtain ⟨k, n, x1, m1, y1, x2, m2, y2, g1, r1⟩ := hL.get j hlt
      (repeat (first | refine go ?_ | with_reducible intro _))
      refine Wk.drawr (ms := [0, 1, 0, 4, 0, 28, 60, 124, 252, 511, 1023, 2047]) (l := [0, 1, 2, 3, 4, 5, 6, 7, 8, 9, 10, 11]) (by kernel_rfl) (by kernel_rfl) (by kernel_rfl) rfl ?_
      first | refine Wk.knowr (by repeat (first | exact Rem.head | apply Rem.tail)) (fun s h => ol.form (v := vk) h) ?_ | refine Wk.know (by repeat (first | exact Rem.head | apply Rem.tail)) (fun s h => ol.form (v := vk) h) ?_
      rintro ⟨aB, cB, rfl⟩
      (repeat (first | refine go ?_ | with_reducible intro _))
      refine Wk.callD rfl rfl (Spl.none _) (copyEl d (ht.kid hlt) (r1.mono (e1.trans hz))) rfl rfl fun v24 Z2 A' hz2 hq => ?_
      obtain ⟨cs', rfl, hR, rfl⟩ := hq
      refine ⟨?_, ?_⟩
      · (repeat (first | exact PnAll.done | refine PnAll.two ?_ | refine PnAll.skip rfl ?_ | refine PnAll.keep (Rd.loadL rfl rfl (by first | exact Or.inl (by assumption) | (refine Or.inr ?_; repeat (first | exact List.Mem.head _ | refine List.Mem.tail _ ?_))) rfl rfl) (by first | exact veq_slice _ _ _ | exact veq_int _ _ | exact Sl.veq (by assumption)) ?_ | refine PnAll.keep (Rd.loadP (o := 0) rfl rfl (by assumption) rfl rfl) (by first | exact veq_slice _ _ _ | exact veq_int _ _ | exact Sl.veq (by assumption)) ?_))
      obtain ⟨p1, q1, p2, q2, us2, rfl, _, _, _⟩ := hR.form
      (repeat (first | refine go ?_ | with_reducible intro _))
      refine Wk.bs (cs := [.int .u8 s.kids[j].kind, .int .i64 s.kids[j].n, .slice p1 s.kids[j].keys.length q1, .slice p2 s.kids[j].kids.length q2]) rfl rfl rfl rfl rfl rfl rfl fun b50 => ?_
      refine Wk.append (kk := 1) (new := [.int .u8 s.kids[j].kind, .int .i64 s.kids[j].n, .slice p1 s.kids[j].keys.length q1, .slice p2 s.kids[j].kids.length q2]) rfl rfl rfl rfl rfl rfl rfl rfl (by repeat (first | exact Rem.head | apply Rem.tail)) (Src.lit (by first | exact Or.inl (by assumption) | (refine Or.inr ?_; repeat (first | exact List.Mem.head _ | refine List.Mem.tail _ ?_))) rfl) rfl rfl rfl (by omega) (by omega) (by kernel_rfl) rfl rfl fun v51 => ?_
      refine Wk.dropr (.keep (.drop (Sub.refl _))) ?_
      first | refine Wk.knowr (by repeat (first | exact Rem.head | apply Rem.tail)) (fun s h => ol.form (v := v51) h) ?_ | refine Wk.know (by repeat (first | exact Rem.head | apply Rem.tail)) (fun s h => ol.form (v := v51) h) ?_
      rintro ⟨a51, c51, rfl⟩
      (repeat (first | refine go ?_ | with_reducible intro _))
      refine Wk.inv ⟨_, by omega, j + 1, _, _, hlt, rfl, hz.trans hz2, rfl, ?_, (by repeat (first | exact trivial | refine And.intro rfl ?_ | refine And.intro (kpI rfl (by omega)) ?_))⟩
      rw [List.take_succ_eq_append_getElem hlt]
      exact ElRL.snoc hR (hks.mono hz2)
    · have hjd : j = s.kids.length := by simp at hc; omega
      subst hjd
      rw [List.take_length] at hks
      first | apply Wk.olFreezer (v := vk) | apply Wk.olFreeze (v := vk)
      case p => repeat (first | exact Rem.head | apply Rem.tail)
      intro Z2 e2 hP
      obtain ⟨aP, cP, rfl⟩ := hP.form
      (repeat (first | refine go ?_ | with_reducible intro _))
      refine Wk.ret ⟨_, Rs.cell rfl rfl (by first | exact Or.inl (by assumption) | (refine Or.inr ?_; repeat (first | exact List.Mem.head _ | refine List.Mem.tail _ ?_))) rfl rfl Rs.nil, _, Sub.none _, _, rfl, ElR.of (by simpa using h12.mono (hz.trans e2)) hP (hks.mono e2), rfl⟩
end Go.Proofs.J
/- Elements that are alike. -/
namespace Go.Proofs.J
open Go.Ev Go
set_option linter.unusedVariables false
set_option maxHeartbeats 4000000
end Go.Proofs.J
/- The size of elements; what the statements look at. -/
namespace Go.Proofs.J
open Go.Ev Go
set_option linter.unusedVariables false
set_option maxHeartbeats 4000000
theorem size_ : ∀ (d : Nat) {s : El} {Z : Zone} {cs : List Value}, s.Fit d → ElR Z s cs →
    Cz M (.func (.func 25) #[] #[]) [.agg ⟨cs⟩] Z [] (fun v' Z' A' => (∃ r : Int, v' = .int .i64 r) ∧ Z = Z' ∧ A' = [])
  | 0, s, Z, cs, hf, h => hf.pos.elim
  | d + 1, s, Z, cs, hf, h => by
    obtain ⟨a0, c0, a, c, us, rfl, k1, s1, r1⟩ := h.form
    have t1 := hf.sm.1
    have t2 := hf.sm.2.1
    refine Cz.fn (f := Tryz.f25) (by kernel_rfl) rfl rfl rfl _ rfl ?_
    (repeat (first | refine go ?_ | with_reducible intro _))
    rename_i b1
    refine Wk.loop (fun mm L Z' A' => ∃ (j : Nat) (r : Int), j ≤ s.kids.length ∧ mm = s.kids.length - j ∧ Z = Z' ∧ Sub A' [pt b1 (.cells [.int .u8 s.kind, .int .i64 s.n, .slice a0 s.keys.length c0, .slice a s.kids.length c] true 0)] ∧ Kp L [(1, .pointer (some ⟨b1, 0, none⟩)), (3, .int .i64 r), (4, .int .i64 j)]) s.kids.length ⟨0, _, Nat.zero_le _, rfl, rfl, Sub.refl _, (by repeat (first | exact trivial | refine And.intro rfl ?_ | refine And.intro (kpI rfl (by omega)) ?_))⟩ ?_
    rintro mm L Z' A' - ⟨j, r, hj, rfl, rfl, hsub, hk'⟩
    refine Wk.drop hsub ?_
    refine Wk.kp hk' ?_
    clear hk' hsub
    (repeat (first | refine go ?_ | with_reducible intro _))
    refine Wk.caser 14 rfl (fun hc => ?_) (fun hc => ?_)
    · have hlt : j < s.kids.length := by simp at hc; omega
      clear hc
      (repeat (first | refine go ?_ | with_reducible intro _))
      refine Wk.cond rfl (fun hc => ?_) (fun hc => ?_)
      · obtain ⟨k, n, x1, m1, y1, x2, m2, y2, g1, q1⟩ := r1.get j hlt
        (repeat (first | refine go ?_ | with_reducible intro _))
        refine Wk.call rfl rfl (Spl.none _) (size_ d (hf.kid hlt) q1) rfl rfl rfl ?_
        rintro v' Z' A' hz ⟨⟨q, rfl⟩, rfl, rfl⟩
        refine Wk.bin rfl rfl rfl rfl rfl ?_
        (repeat (first | refine go ?_ | with_reducible intro _))
        exact Wk.inv ⟨_, by omega, j + 1, _, hlt, rfl, rfl, Sub.refl _, (by repeat (first | exact trivial | refine And.intro rfl ?_ | refine And.intro (kpI rfl (by omega)) ?_))⟩
      · (repeat (first | refine go ?_ | with_reducible intro _))
        refine Wk.ret ⟨_, Rs.tmp rfl Rs.nil, _, Sub.none _, ⟨_, rfl⟩, rfl, rfl⟩
    · (repeat (first | refine go ?_ | with_reducible intro _))
      refine Wk.ret ⟨_, Rs.tmp rfl Rs.nil, _, Sub.none _, ⟨_, rfl⟩, rfl, rfl⟩
end Go.Proofs.J
/- Small questions about elements. -/
namespace Go.Proofs.J
open Go.Ev Go
set_option linter.unusedVariables false
set_option maxHeartbeats 4000000
/-- Which parts an element has. -/
def El.has (e : El) : List Value := [.bool (decide (e.n ≠ 0)), .bool (decide (0 < e.keys.length)), .bool (decide (0 < e.kids.length))]
end Go.Proofs.J
/- Keys; whether one of the elements is so. -/
namespace Go.Proofs.J
open Go.Ev Go
set_option linter.unusedVariables false
set_option maxHeartbeats 4000000
end Go.Proofs.J
/- The table of a shape. -/
namespace Go.Proofs.J
open Go.Ev Go
set_option linter.unusedVariables false
set_option maxHeartbeats 4000000
end Go.Proofs.J
/- Which elements are of a shape. -/
namespace Go.Proofs.J
open Go.Ev Go
set_option linter.unusedVariables false
set_option maxHeartbeats 4000000
set_option maxRecDepth 100000
end Go.Proofs.J
/- Which elements are of a shape, as the reference says. -/
namespace Go.Proofs.J
open Go.Ev Go
set_option linter.unusedVariables false
set_option maxHeartbeats 4000000
set_option maxRecDepth 100000
end Go.Proofs.J
/- The error of an element. -/
namespace Go.Proofs.J
open Go.Ev Go
set_option linter.unusedVariables false
set_option maxHeartbeats 4000000
end Go.Proofs.J
/- The error of one element, and that of the reference. -/
namespace Go.Proofs.J
open Go.Ev Go
set_option linter.unusedVariables false
set_option maxHeartbeats 4000000
end Go.Proofs.J
/- The error of elements, as the reference says. -/
namespace Go.Proofs.J
open Go.Ev Go
set_option linter.unusedVariables false
set_option maxHeartbeats 4000000
end Go.Proofs.J
/- Half of a disk. -/
namespace Go.Proofs.J
open Go.Ev Go
set_option linter.unusedVariables false
set_option maxHeartbeats 4000000
end Go.Proofs.J
