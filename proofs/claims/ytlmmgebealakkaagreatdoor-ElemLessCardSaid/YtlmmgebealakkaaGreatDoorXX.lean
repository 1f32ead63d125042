/- XX -/
import Derived.Test.YtlmmgebealakkaaGreatDoorHK
import Derived.Test.YtlmmgebealakkaaGreatDoorWT
import Derived.Test.YtlmmgebealakkaaGreatDoorEvF
/- Which element comes first: by the program, and by the reference. -/
namespace Go.Proofs.J
open Go.Ev Go
set_option linter.unusedVariables false
set_option linter.unusedSimpArgs false
set_option maxHeartbeats 4000000
/-- Of one sign. -/
def Sg (r c : Int) : Prop := (r < 0 ↔ c < 0) ∧ (r = 0 ↔ c = 0)
theorem less_ {d d' : Nat} {Z : Zone} {ca cb : List Value} {a b : El} (ha : ElR Z a ca) (hb : ElR Z b cb) (fa : a.Fit d) (fb : b.Fit d') :
    Cz M (.func (.func 26) #[] #[]) [.agg ⟨ca⟩, .agg ⟨cb⟩] Z [] (fun v' Z' A' => v' = .bool (decide (cmpE a b < 0)) ∧ Z = Z' ∧ A' = []) := by
  obtain ⟨q1, q2, q3, q4, ua, rfl, ak, as_, aL⟩ := ha.form
  obtain ⟨r1, r2, r3, r4, ub, rfl, bk, bs_, bL⟩ := hb.form
  refine Cz.fn (f := Tryz.f26) (by kernel_rfl) rfl rfl rfl _ rfl ?_
  (repeat (first | refine go ?_ | with_reducible intro _))
  refine Wk.call rfl rfl (Spl.none _) (compareE d d' ha hb fa fb) rfl rfl rfl ?_
  rintro v' Z' A' hz ⟨rfl, rfl, rfl⟩
  (repeat (first | refine go ?_ | with_reducible intro _))
  refine Wk.ret ⟨_, Rs.tmp rfl Rs.nil, _, Sub.none _, by simp [outOf], rfl, rfl⟩
theorem sg_end {x y : List Int} {j : Nat} (hx : j ≤ x.length) (hy : j ≤ y.length) (h : j = x.length ∨ j = y.length) : Sg ((x.length : Int) - y.length) (cmpL (x.drop j) (y.drop j)) := by
  unfold Sg
  rcases Nat.lt_or_ge j x.length with h1 | h1
  · have : j = y.length := by omega
    rw [List.drop_eq_getElem_cons h1, List.drop_of_length_le (l := y) (by omega), cmpL]; omega
  · rw [List.drop_of_length_le (l := x) h1]
    rcases Nat.lt_or_ge j y.length with h2 | h2
    · rw [List.drop_eq_getElem_cons h2, cmpL]; omega
    · rw [List.drop_of_length_le (l := y) h2, cmpL]; omega
theorem rCmpInts {Z : Zone} {v w : Value} {x y : List Int} (s : Sl Z 1 v x.length (nums x)) (t : Sl Z 1 w y.length (nums y)) (hx : x.length ≤ 17592186044416) (hy : y.length ≤ 17592186044416) :
    Cz M (.func (.func 103) #[] #[]) [v, w] Z [] (fun v' Z' A' => (∃ r, v' = .int .i64 r ∧ Sg r (cmpL x y)) ∧ Z = Z' ∧ A' = []) := by
  obtain ⟨q, c, rfl⟩ := s.form
  obtain ⟨r, e, rfl⟩ := t.form
  refine Cz.fn (f := Tryz.f103) (by kernel_rfl) rfl rfl rfl _ rfl ?_
  (repeat (first | refine go ?_ | with_reducible intro _))
  refine Wk.loop (fun mm L Z' A' => ∃ j : Nat, j ≤ x.length ∧ mm = x.length - j ∧ Z = Z' ∧ Sub A' [] ∧ (j ≤ y.length ∧ cmpL x y = cmpL (x.drop j) (y.drop j)) ∧ Kp L [(0, .slice q x.length c), (1, .slice r y.length e), (5, .int .i64 j)]) (x.length) ⟨0, Nat.zero_le _, rfl, rfl, (by repeat (first | exact Sub.none _ | exact Sub.refl _ | refine Sub.keep ?_ | refine Sub.drop ?_)), ⟨Nat.zero_le _, rfl⟩, (by repeat (first | exact trivial | refine And.intro rfl ?_ | refine And.intro (kpI rfl (by omega)) ?_))⟩ ?_
  rintro mm L Z' A' - ⟨j, hjj, rfl, rfl, hsub, invj, hk⟩
  refine Wk.drop hsub ?_
  refine Wk.kp hk ?_
  clear hk hsub
  obtain ⟨hjy, hinv⟩ := invj
  (repeat (first | refine go ?_ | with_reducible intro _))
  refine Wk.caser 10 rfl (fun hc => ?_) (fun hc => ?_)
  · have hlt : j < x.length := by simp at hc; omega
    clear hc
    (repeat (first | refine go ?_ | with_reducible intro _))
    refine Wk.cond rfl (fun hc => ?_) (fun hc => ?_)
    · have hlt2 : j < y.length := by simp at hc; omega
      clear hc
      have g1 : getCells (nums x) (j * 1) 1 = some [.int .i64 x[j]] := getCells_map hlt
      have g2 : getCells (nums y) (j * 1) 1 = some [.int .i64 y[j]] := getCells_map hlt2
      (repeat (first | refine go ?_ | with_reducible intro _))
      refine Wk.drawr (ms := [0, 0, 3, 7, 0, 0, 48, 112, 255]) (l := [0, 1, 2, 3, 4, 5, 6, 7, 8]) (by kernel_rfl) (by kernel_rfl) (by kernel_rfl) rfl ?_
      (repeat (first | refine go ?_ | with_reducible intro _))
      refine Wk.cond rfl (fun hc => ?_) (fun hc => ?_)
      · have hne : ¬ x[j] = y[j] := by simpa using hc
        clear hc
        (repeat (first | refine go ?_ | with_reducible intro _))
        refine Wk.drawr (ms := [0, 0, 3, 7, 0, 0, 48, 112, 255]) (l := [0, 1, 2, 3, 4, 5, 6, 7, 8]) (by kernel_rfl) (by kernel_rfl) (by kernel_rfl) rfl ?_
        (repeat (first | refine go ?_ | with_reducible intro _))
        refine Wk.cond rfl (fun hc => ?_) (fun hc => ?_)
        · have h : x[j] < y[j] := by simpa using hc
          (repeat (first | refine go ?_ | with_reducible intro _))
          refine Wk.ret ⟨_, Rs.tmp rfl Rs.nil, _, Sub.none _, ⟨-1, rfl, by rw [hinv, cmpL_drop hlt hlt2]; simp [Sg, orI, cmpI, h]⟩, rfl, rfl⟩
        · have h : y[j] < x[j] := by simp at hc; omega
          (repeat (first | refine go ?_ | with_reducible intro _))
          refine Wk.ret ⟨_, Rs.tmp rfl Rs.nil, _, Sub.none _, ⟨1, rfl, by rw [hinv, cmpL_drop hlt hlt2]; simp [Sg, orI, cmpI, h, Int.lt_asymm h]⟩, rfl, rfl⟩
      · have h : x[j] = y[j] := by simpa using hc
        clear hc
        (repeat (first | refine go ?_ | with_reducible intro _))
        refine Wk.inv ⟨_, by omega, j + 1, by omega, rfl, rfl, (by repeat (first | exact Sub.none _ | exact Sub.refl _ | refine Sub.keep ?_ | refine Sub.drop ?_)), (⟨hlt2, by rw [hinv, cmpL_drop hlt hlt2, h]; simp [orI, cmpI]⟩), (by repeat (first | exact trivial | refine And.intro rfl ?_ | refine And.intro (kpI rfl (by omega)) ?_))⟩
    · have hjn : j = y.length := by simp at hc; omega
      (repeat (first | refine go ?_ | with_reducible intro _))
      refine Wk.ret ⟨_, Rs.tmp rfl Rs.nil, _, Sub.none _, ⟨_, rfl, by rw [hinv]; exact sg_end hjj hjy (.inr hjn)⟩, rfl, rfl⟩
  · have hjn : j = x.length := by simp at hc; omega
    (repeat (first | refine go ?_ | with_reducible intro _))
    refine Wk.ret ⟨_, Rs.tmp rfl Rs.nil, _, Sub.none _, ⟨_, rfl, by rw [hinv]; exact sg_end hjj hjy (.inl hjn)⟩, rfl, rfl⟩
theorem sgs_end {x y : List El} {j : Nat} (hx : j ≤ x.length) (hy : j ≤ y.length) (h : j = x.length ∨ j = y.length) : Sg ((x.length : Int) - y.length) (cmpEs (x.drop j) (y.drop j)) := by
  unfold Sg
  rcases Nat.lt_or_ge j x.length with h1 | h1
  · have : j = y.length := by omega
    rw [List.drop_eq_getElem_cons h1, List.drop_of_length_le (l := y) (by omega), cmpEs]; omega
  · rw [List.drop_of_length_le (l := x) h1]
    rcases Nat.lt_or_ge j y.length with h2 | h2
    · rw [List.drop_eq_getElem_cons h2, cmpEs]; omega
    · rw [List.drop_of_length_le (l := y) h2, cmpEs]; omega
theorem rCompare_ : ∀ (d d' : Nat) {Z : Zone} {ca cb : List Value} {a b : El}, ElR Z a ca → ElR Z b cb → a.Fit d → b.Fit d' →
    Cz M (.func (.func 69) #[] #[]) [.agg ⟨ca⟩, .agg ⟨cb⟩] Z [] (fun v' Z' A' => (∃ r, v' = .int .i64 r ∧ Sg r (cmpE a b)) ∧ Z = Z' ∧ A' = [])
  | 0, d', Z, ca, cb, a, b, ha, hb, fa, fb => fa.pos.elim
  | d + 1, 0, Z, ca, cb, a, b, ha, hb, fa, fb => fb.pos.elim
  | d + 1, d' + 1, Z, ca, cb, a, b, ha, hb, fa, fb => by
    obtain ⟨q1, q2, q3, q4, ua, rfl, ak, as_, aL⟩ := ha.form
    obtain ⟨r1, r2, r3, r4, ub, rfl, bk, bs_, bL⟩ := hb.form
    have t1 := fa.sm
    have t2 := fb.sm
    have k1 := t1.2.2.2.1
    have k2 := t2.2.2.2.1
    have l1 := t1.2.1
    have l2 := t2.2.1
    rw [cmpE_eq]
    refine Cz.fn (f := Tryz.f69) (by kernel_rfl) rfl rfl rfl _ rfl ?_
    (repeat (first | refine go ?_ | with_reducible intro _))
    rename_i b2 b3
    refine Wk.cond rfl (fun hc => ?_) (fun hc => ?_)
    · have h : ¬ a.kind = b.kind := by simpa using hc
      clear hc
      (repeat (first | refine go ?_ | with_reducible intro _))
      refine Wk.conv rfl rfl rfl (Go.Ev.wrap_small (by omega) (by omega)) rfl rfl rfl ?_
      (repeat (first | refine go ?_ | with_reducible intro _))
      refine Wk.conv rfl rfl rfl (Go.Ev.wrap_small (by omega) (by omega)) rfl rfl rfl ?_
      (repeat (first | refine go ?_ | with_reducible intro _))
      refine Wk.ret ⟨_, Rs.tmp rfl Rs.nil, _, Sub.none _, ⟨_, rfl, by unfold Sg orI cmpI; repeat' split; all_goals omega⟩, rfl, rfl⟩
    have e1 : cmpI a.kind b.kind = 0 := cmpI_zero.2 (by simpa using hc)
    clear hc
    rw [e1]
    (repeat (first | refine go ?_ | with_reducible intro _))
    refine Wk.cond rfl (fun hc => ?_) (fun hc => ?_)
    · have h : ¬ a.n = b.n := by simpa using hc
      clear hc
      (repeat (first | refine go ?_ | with_reducible intro _))
      refine Wk.cond rfl (fun hc => ?_) (fun hc => ?_)
      · have h : a.n < b.n := by simpa using hc
        (repeat (first | refine go ?_ | with_reducible intro _))
        refine Wk.ret ⟨_, Rs.tmp rfl Rs.nil, _, Sub.none _, ⟨-1, rfl, by simp [Sg, orI, cmpI, h]⟩, rfl, rfl⟩
      · have h : b.n < a.n := by simp at hc; omega
        (repeat (first | refine go ?_ | with_reducible intro _))
        refine Wk.ret ⟨_, Rs.tmp rfl Rs.nil, _, Sub.none _, ⟨1, rfl, by simp [Sg, orI, cmpI, h, Int.lt_asymm h]⟩, rfl, rfl⟩
    have e2 : cmpI a.n b.n = 0 := cmpI_zero.2 (by simpa using hc)
    clear hc
    rw [e2]
    have e0 : ∀ x, orI 0 x = x := fun x => by simp [orI]
    rw [e0, e0]
    (repeat (first | refine go ?_ | with_reducible intro _))
    refine Wk.call rfl rfl (Spl.none _) (rCmpInts ak bk t1.1 t2.1) (by kernel_rfl) rfl rfl ?_
    rintro v' Z' A' hz ⟨⟨r, rfl, hr⟩, rfl, rfl⟩
    (repeat (first | refine go ?_ | with_reducible intro _))
    refine Wk.cond rfl (fun hc => ?_) (fun hc => ?_)
    · have h : ¬ r = 0 := by simpa using hc
      (repeat (first | refine go ?_ | with_reducible intro _))
      refine Wk.ret ⟨_, Rs.tmp rfl Rs.nil, _, Sub.none _, ⟨r, rfl, by unfold Sg at hr ⊢; unfold orI; split <;> omega⟩, rfl, rfl⟩
    have e3 : cmpL a.keys b.keys = 0 := hr.2.1 (by simpa using hc)
    clear hc
    rw [e3, e0]
    (repeat (first | refine go ?_ | with_reducible intro _))
    refine Wk.loop (fun mm L Z' A' => ∃ j : Nat, j ≤ a.kids.length ∧ mm = a.kids.length - j ∧ Z = Z' ∧ Sub A' [pt b3 (.cells [.int .u8 b.kind, .int .i64 b.n, .slice r1 b.keys.length r2, .slice r3 b.kids.length r4] true 0), pt b2 (.cells [.int .u8 a.kind, .int .i64 a.n, .slice q1 a.keys.length q2, .slice q3 a.kids.length q4] true 0)] ∧ (j ≤ b.kids.length ∧ cmpEs a.kids b.kids = cmpEs (a.kids.drop j) (b.kids.drop j)) ∧ Kp L [(2, .pointer (some ⟨b2, 0, none⟩)), (3, .pointer (some ⟨b3, 0, none⟩)), (6, .int .i64 j)]) (a.kids.length) ⟨0, Nat.zero_le _, rfl, rfl, (by repeat (first | exact Sub.none _ | exact Sub.refl _ | refine Sub.keep ?_ | refine Sub.drop ?_)), ⟨Nat.zero_le _, rfl⟩, (by repeat (first | exact trivial | refine And.intro rfl ?_ | refine And.intro (kpI rfl (by omega)) ?_))⟩ ?_
    rintro mm L Z' A' - ⟨j, hjj, rfl, rfl, hsub, invj, hk⟩
    refine Wk.drop hsub ?_
    refine Wk.kp hk ?_
    clear hk hsub
    obtain ⟨hjy, hinv⟩ := invj
    (repeat (first | refine go ?_ | with_reducible intro _))
    refine Wk.caser 45 rfl (fun hc => ?_) (fun hc => ?_)
    · have hlt : j < a.kids.length := by simp at hc; omega
      clear hc
      (repeat (first | refine go ?_ | with_reducible intro _))
      refine Wk.cond rfl (fun hc => ?_) (fun hc => ?_)
      · have hlt2 : j < b.kids.length := by simp at hc; omega
        clear hc
        obtain ⟨k', n', x1, m1, y1, x2, m2, y2, gx, rrx⟩ := aL.get j hlt
        obtain ⟨k3, n3, z1, o1, w1, z2, o2, w2, gy, rry⟩ := bL.get j hlt2
        (repeat (first | refine go ?_ | with_reducible intro _))
        refine Wk.drawr (ms := [0, 1, 0, 7, 15, 0, 32, 0, 224, 480, 1023, 2047]) (l := [0, 1, 2, 3, 4, 5, 6, 7, 8, 9, 10, 11]) (by kernel_rfl) (by kernel_rfl) (by kernel_rfl) rfl ?_
        (repeat (first | refine go ?_ | with_reducible intro _))
        refine Wk.callD rfl rfl (Spl.none _) (rCompare_ d d' rrx rry (fa.kid hlt) (fb.kid hlt2)) rfl rfl fun v9 Z9 A' hz9 hq => ?_
        obtain ⟨⟨r', rfl, hr'⟩, rfl, rfl⟩ := hq
        refine ⟨?_, ?_⟩
        · (repeat (first | exact PnAll.done | refine PnAll.two ?_ | refine PnAll.skip rfl ?_ | refine PnAll.keep (Rd.loadL rfl rfl (by first | exact Or.inl (by assumption) | (refine Or.inr ?_; repeat (first | exact List.Mem.head _ | refine List.Mem.tail _ ?_))) rfl rfl) (by first | exact veq_slice _ _ _ | exact veq_int _ _ | exact Sl.veq (by assumption) | simp [veq, veqL, veq1, ba_self]) ?_ | refine PnAll.keep (by apply Rd.loadP (o := 0); exact rfl; exact rfl; (first | assumption | (refine Pz.mono ?_ (by assumption); assumption)); exact rfl; exact rfl) (by first | exact veq_slice _ _ _ | exact veq_int _ _ | exact Sl.veq (by assumption) | simp [veq, veqL, veq1, ba_self]) ?_))
        (repeat (first | refine go ?_ | with_reducible intro _))
        refine Wk.cond rfl (fun hc => ?_) (fun hc => ?_)
        · have h : ¬ r' = 0 := by simpa using hc
          (repeat (first | refine go ?_ | with_reducible intro _))
          refine Wk.ret ⟨_, Rs.tmp rfl Rs.nil, _, Sub.none _, ⟨r', rfl, by rw [hinv, cmpEs_drop hlt hlt2]; unfold Sg at hr' ⊢; unfold orI; split <;> omega⟩, rfl, rfl⟩
        · have h : cmpE a.kids[j] b.kids[j] = 0 := hr'.2.1 (by simpa using hc)
          clear hc
          (repeat (first | refine go ?_ | with_reducible intro _))
          refine Wk.inv ⟨_, by omega, j + 1, by omega, rfl, rfl, (by repeat (first | exact Sub.none _ | exact Sub.refl _ | refine Sub.keep ?_ | refine Sub.drop ?_)), (⟨hlt2, by rw [hinv, cmpEs_drop hlt hlt2, h]; simp [orI]⟩), (by repeat (first | exact trivial | refine And.intro rfl ?_ | refine And.intro (kpI rfl (by omega)) ?_))⟩
      · have hjn : j = b.kids.length := by simp at hc; omega
        (repeat (first | refine go ?_ | with_reducible intro _))
        refine Wk.ret ⟨_, Rs.tmp rfl Rs.nil, _, Sub.none _, ⟨_, rfl, by rw [hinv]; exact sgs_end hjj hjy (.inr hjn)⟩, rfl, rfl⟩
    · have hjn : j = a.kids.length := by simp at hc; omega
      (repeat (first | refine go ?_ | with_reducible intro _))
      refine Wk.ret ⟨_, Rs.tmp rfl Rs.nil, _, Sub.none _, ⟨_, rfl, by rw [hinv]; exact sgs_end hjj hjy (.inl hjn)⟩, rfl, rfl⟩
theorem rLess_ {d d' : Nat} {Z : Zone} {ca cb : List Value} {a b : El} (ha : ElR Z a ca) (hb : ElR Z b cb) (fa : a.Fit d) (fb : b.Fit d') :
    Cz M (.func (.func 27) #[] #[]) [.agg ⟨ca⟩, .agg ⟨cb⟩] Z [] (fun v' Z' A' => v' = .bool (decide (cmpE a b < 0)) ∧ Z = Z' ∧ A' = []) := by
  obtain ⟨q1, q2, q3, q4, ua, rfl, ak, as_, aL⟩ := ha.form
  obtain ⟨r1, r2, r3, r4, ub, rfl, bk, bs_, bL⟩ := hb.form
  refine Cz.fn (f := Tryz.f27) (by kernel_rfl) rfl rfl rfl _ rfl ?_
  (repeat (first | refine go ?_ | with_reducible intro _))
  refine Wk.call rfl rfl (Spl.none _) (rCompare_ d d' ha hb fa fb) rfl rfl rfl ?_
  rintro v' Z' A' hz ⟨⟨r, rfl, hr⟩, rfl, rfl⟩
  (repeat (first | refine go ?_ | with_reducible intro _))
  refine Wk.ret ⟨_, Rs.tmp rfl Rs.nil, _, Sub.none _, by simp [outOf, hr.1], rfl, rfl⟩
end Go.Proofs.J
/- The law ElemLess. -/
namespace Go.Proofs.J
open Go.Ev Go
set_option linter.unusedVariables false
set_option linter.unusedSimpArgs false
set_option maxHeartbeats 4000000
theorem ElemLess {Z : Zone} {ca cb : List Value} {a b : El} {d d' : Nat} (ha : ElR Z a ca) (hb : ElR Z b cb) (fa : a.Fit d) (fb : b.Fit d') :
    Cz M (.func (.func 4) #[] #[]) [.agg ⟨ca⟩, .agg ⟨cb⟩] Z [] (fun v' Z' A' => v' = .bool true) := by
  have ha0 := ha
  have hb0 := hb
  obtain ⟨q1, q2, q3, q4, ua, rfl, ak, as_, aL⟩ := ha.form
  obtain ⟨r1, r2, r3, r4, ub, rfl, bk, bs_, bL⟩ := hb.form
  refine Cz.fn (f := Tryz.f4) (by kernel_rfl) rfl rfl rfl _ rfl ?_
  (repeat (first | refine go ?_ | with_reducible intro _))
  rename_i b2 b3
  refine Wk.call rfl rfl (Spl.none _) (size_ d fa ha0) (by kernel_rfl) rfl rfl ?_
  rintro v' Z' A' hz ⟨⟨q, rfl⟩, rfl, rfl⟩
  (repeat (first | refine go ?_ | with_reducible intro _))
  refine Wk.caser 8 rfl (fun hc => ?_) (fun hc => ?_)
  · (repeat (first | refine go ?_ | with_reducible intro _))
    refine Wk.call rfl rfl (Spl.none _) ((Cz.ora rfl)) rfl rfl rfl ?_
    rintro v' Z' A' hz ⟨rfl, rfl, rfl⟩
    (repeat (first | refine go ?_ | with_reducible intro _))
    exact Wk.ret ⟨_, Rs.tmp rfl Rs.nil, _, Sub.none _, rfl⟩
  clear hc
  (repeat (first | refine go ?_ | with_reducible intro _))
  refine Wk.call rfl rfl (Spl.none _) (size_ d' fb hb0) (by kernel_rfl) rfl rfl ?_
  rintro v' Z' A' hz ⟨⟨q', rfl⟩, rfl, rfl⟩
  (repeat (first | refine go ?_ | with_reducible intro _))
  refine Wk.cond rfl (fun hc => ?_) (fun hc => ?_)
  · (repeat (first | refine go ?_ | with_reducible intro _))
    refine Wk.call rfl rfl (Spl.none _) ((Cz.ora rfl)) rfl rfl rfl ?_
    rintro v' Z' A' hz ⟨rfl, rfl, rfl⟩
    (repeat (first | refine go ?_ | with_reducible intro _))
    exact Wk.ret ⟨_, Rs.tmp rfl Rs.nil, _, Sub.none _, rfl⟩
  clear hc
  (repeat (first | refine go ?_ | with_reducible intro _))
  refine Wk.drawr (ms := [0, 1, 0, 7, 15, 0, 0, 127, 255, 511, 1023, 2047, 1023, 8191, 16383, 1023, 1023, 131071, 262143, 524287, 1048575, 2097151, 4194303, 2097151, 16777215, 33554431, 67108863, 134217727, 268435455, 536870911, 1073741823, 2147483647]) (l := [0, 2, 5, 6, 1, 3, 4, 7, 8, 9, 10, 12, 15, 16, 11, 13, 14, 17, 18, 19, 20, 21, 23, 22, 24, 25, 26, 27, 28, 29, 30, 31]) (by kernel_rfl) (by kernel_rfl) (by kernel_rfl) rfl ?_
  (repeat (first | refine go ?_ | with_reducible intro _))
  refine Wk.callD rfl rfl (Spl.none _) (copyEl d fa ha0) rfl rfl fun v1 Z1 A' hzZ1 hq => ?_
  obtain ⟨c1, rfl, h1, rfl⟩ := hq
  refine ⟨?_, ?_⟩
  · (repeat (first | exact PnAll.done | refine PnAll.two ?_ | refine PnAll.skip rfl ?_ | refine PnAll.keep (Rd.loadL rfl rfl (by first | exact Or.inl (by assumption) | (refine Or.inr ?_; repeat (first | exact List.Mem.head _ | refine List.Mem.tail _ ?_))) rfl rfl) (by first | exact veq_slice _ _ _ | exact veq_int _ _ | exact Sl.veq (by assumption) | simp [veq, veqL, veq1, ba_self]) ?_ | refine PnAll.keep (by apply Rd.loadP (o := 0); exact rfl; exact rfl; (first | assumption | (refine Pz.mono ?_ (by assumption); assumption)); exact rfl; exact rfl) (by first | exact veq_slice _ _ _ | exact veq_int _ _ | exact Sl.veq (by assumption) | simp [veq, veqL, veq1, ba_self]) ?_))
  (repeat (first | refine go ?_ | with_reducible intro _))
  refine Wk.callD rfl rfl (Spl.none _) (copyEl d' fb (hb0.mono hzZ1)) rfl rfl fun v1 Z2 A' hzZ2 hq => ?_
  obtain ⟨c2, rfl, h2, rfl⟩ := hq
  refine ⟨?_, ?_⟩
  · (repeat (first | exact PnAll.done | refine PnAll.two ?_ | refine PnAll.skip rfl ?_ | refine PnAll.keep (Rd.loadL rfl rfl (by first | exact Or.inl (by assumption) | (refine Or.inr ?_; repeat (first | exact List.Mem.head _ | refine List.Mem.tail _ ?_))) rfl rfl) (by first | exact veq_slice _ _ _ | exact veq_int _ _ | exact Sl.veq (by assumption) | simp [veq, veqL, veq1, ba_self]) ?_ | refine PnAll.keep (by apply Rd.loadP (o := 0); exact rfl; exact rfl; (first | assumption | (refine Pz.mono ?_ (by assumption); assumption)); exact rfl; exact rfl) (by first | exact veq_slice _ _ _ | exact veq_int _ _ | exact Sl.veq (by assumption) | simp [veq, veqL, veq1, ba_self]) ?_))
  (repeat (first | refine go ?_ | with_reducible intro _))
  refine Wk.callD rfl rfl (Spl.none _) (less_ (h1.mono hzZ2) h2 fa fb) rfl rfl fun v1 Z3 A' hzZ3 hq => ?_
  obtain ⟨rfl, rfl, rfl⟩ := hq
  refine ⟨?_, ?_⟩
  · (repeat (first | exact PnAll.done | refine PnAll.two ?_ | refine PnAll.skip rfl ?_ | refine PnAll.keep (Rd.loadL rfl rfl (by first | exact Or.inl (by assumption) | (refine Or.inr ?_; repeat (first | exact List.Mem.head _ | refine List.Mem.tail _ ?_))) rfl rfl) (by first | exact veq_slice _ _ _ | exact veq_int _ _ | exact Sl.veq (by assumption) | simp [veq, veqL, veq1, ba_self]) ?_ | refine PnAll.keep (by apply Rd.loadP (o := 0); exact rfl; exact rfl; (first | assumption | (refine Pz.mono ?_ (by assumption); assumption)); exact rfl; exact rfl) (by first | exact veq_slice _ _ _ | exact veq_int _ _ | exact Sl.veq (by assumption) | simp [veq, veqL, veq1, ba_self]) ?_))
  (repeat (first | refine go ?_ | with_reducible intro _))
  refine Wk.callD rfl rfl (Spl.none _) (rLess_ (ha0.mono (hzZ1.trans hzZ2)) (hb0.mono (hzZ1.trans hzZ2)) fa fb) rfl rfl fun v1 Z4 A' hzZ4 hq => ?_
  obtain ⟨rfl, rfl, rfl⟩ := hq
  refine ⟨?_, ?_⟩
  · (repeat (first | exact PnAll.done | refine PnAll.two ?_ | refine PnAll.skip rfl ?_ | refine PnAll.keep (Rd.loadL rfl rfl (by first | exact Or.inl (by assumption) | (refine Or.inr ?_; repeat (first | exact List.Mem.head _ | refine List.Mem.tail _ ?_))) rfl rfl) (by first | exact veq_slice _ _ _ | exact veq_int _ _ | exact Sl.veq (by assumption) | simp [veq, veqL, veq1, ba_self]) ?_ | refine PnAll.keep (by apply Rd.loadP (o := 0); exact rfl; exact rfl; (first | assumption | (refine Pz.mono ?_ (by assumption); assumption)); exact rfl; exact rfl) (by first | exact veq_slice _ _ _ | exact veq_int _ _ | exact Sl.veq (by assumption) | simp [veq, veqL, veq1, ba_self]) ?_))
  (repeat (first | refine go ?_ | with_reducible intro _))
  refine Wk.caser 23 rfl (fun hc => ?_) (fun hc => ?_)
  rotate_left
  · simp at hc
  clear hc
  (repeat (first | refine go ?_ | with_reducible intro _))
  refine Wk.callD rfl rfl (Spl.none _) (copyEl d' fb (hb0.mono (hzZ1.trans hzZ2))) rfl rfl fun v1 Z5 A' hzZ5 hq => ?_
  obtain ⟨c5, rfl, h5, rfl⟩ := hq
  refine ⟨?_, ?_⟩
  · (repeat (first | exact PnAll.done | refine PnAll.two ?_ | refine PnAll.skip rfl ?_ | refine PnAll.keep (Rd.loadL rfl rfl (by first | exact Or.inl (by assumption) | (refine Or.inr ?_; repeat (first | exact List.Mem.head _ | refine List.Mem.tail _ ?_))) rfl rfl) (by first | exact veq_slice _ _ _ | exact veq_int _ _ | exact Sl.veq (by assumption) | simp [veq, veqL, veq1, ba_self]) ?_ | refine PnAll.keep (by apply Rd.loadP (o := 0); exact rfl; exact rfl; (first | assumption | (refine Pz.mono ?_ (by assumption); assumption)); exact rfl; exact rfl) (by first | exact veq_slice _ _ _ | exact veq_int _ _ | exact Sl.veq (by assumption) | simp [veq, veqL, veq1, ba_self]) ?_))
  (repeat (first | refine go ?_ | with_reducible intro _))
  refine Wk.callD rfl rfl (Spl.none _) (copyEl d fa (ha0.mono ((hzZ1.trans hzZ2).trans hzZ5))) rfl rfl fun v1 Z6 A' hzZ6 hq => ?_
  obtain ⟨c6, rfl, h6, rfl⟩ := hq
  refine ⟨?_, ?_⟩
  · (repeat (first | exact PnAll.done | refine PnAll.two ?_ | refine PnAll.skip rfl ?_ | refine PnAll.keep (Rd.loadL rfl rfl (by first | exact Or.inl (by assumption) | (refine Or.inr ?_; repeat (first | exact List.Mem.head _ | refine List.Mem.tail _ ?_))) rfl rfl) (by first | exact veq_slice _ _ _ | exact veq_int _ _ | exact Sl.veq (by assumption) | simp [veq, veqL, veq1, ba_self]) ?_ | refine PnAll.keep (by apply Rd.loadP (o := 0); exact rfl; exact rfl; (first | assumption | (refine Pz.mono ?_ (by assumption); assumption)); exact rfl; exact rfl) (by first | exact veq_slice _ _ _ | exact veq_int _ _ | exact Sl.veq (by assumption) | simp [veq, veqL, veq1, ba_self]) ?_))
  (repeat (first | refine go ?_ | with_reducible intro _))
  refine Wk.callD rfl rfl (Spl.none _) (less_ (h5.mono hzZ6) h6 fb fa) rfl rfl fun v1 Z7 A' hzZ7 hq => ?_
  obtain ⟨rfl, rfl, rfl⟩ := hq
  refine ⟨?_, ?_⟩
  · (repeat (first | exact PnAll.done | refine PnAll.two ?_ | refine PnAll.skip rfl ?_ | refine PnAll.keep (Rd.loadL rfl rfl (by first | exact Or.inl (by assumption) | (refine Or.inr ?_; repeat (first | exact List.Mem.head _ | refine List.Mem.tail _ ?_))) rfl rfl) (by first | exact veq_slice _ _ _ | exact veq_int _ _ | exact Sl.veq (by assumption) | simp [veq, veqL, veq1, ba_self]) ?_ | refine PnAll.keep (by apply Rd.loadP (o := 0); exact rfl; exact rfl; (first | assumption | (refine Pz.mono ?_ (by assumption); assumption)); exact rfl; exact rfl) (by first | exact veq_slice _ _ _ | exact veq_int _ _ | exact Sl.veq (by assumption) | simp [veq, veqL, veq1, ba_self]) ?_))
  (repeat (first | refine go ?_ | with_reducible intro _))
  refine Wk.callD rfl rfl (Spl.none _) (rLess_ (hb0.mono (((hzZ1.trans hzZ2).trans hzZ5).trans hzZ6)) (ha0.mono (((hzZ1.trans hzZ2).trans hzZ5).trans hzZ6)) fb fa) rfl rfl fun v1 Z8 A' hzZ8 hq => ?_
  obtain ⟨rfl, rfl, rfl⟩ := hq
  refine ⟨?_, ?_⟩
  · (repeat (first | exact PnAll.done | refine PnAll.two ?_ | refine PnAll.skip rfl ?_ | refine PnAll.keep (Rd.loadL rfl rfl (by first | exact Or.inl (by assumption) | (refine Or.inr ?_; repeat (first | exact List.Mem.head _ | refine List.Mem.tail _ ?_))) rfl rfl) (by first | exact veq_slice _ _ _ | exact veq_int _ _ | exact Sl.veq (by assumption) | simp [veq, veqL, veq1, ba_self]) ?_ | refine PnAll.keep (by apply Rd.loadP (o := 0); exact rfl; exact rfl; (first | assumption | (refine Pz.mono ?_ (by assumption); assumption)); exact rfl; exact rfl) (by first | exact veq_slice _ _ _ | exact veq_int _ _ | exact Sl.veq (by assumption) | simp [veq, veqL, veq1, ba_self]) ?_))
  (repeat (first | refine go ?_ | with_reducible intro _))
  refine Wk.caser 34 rfl (fun hc => ?_) (fun hc => ?_)
  rotate_left
  · simp at hc
  clear hc
  (repeat (first | refine go ?_ | with_reducible intro _))
  refine Wk.callD rfl rfl (Spl.none _) (copyEl d fa (ha0.mono (((hzZ1.trans hzZ2).trans hzZ5).trans hzZ6))) rfl rfl fun v1 Z9 A' hzZ9 hq => ?_
  obtain ⟨c9, rfl, h9, rfl⟩ := hq
  refine ⟨?_, ?_⟩
  · (repeat (first | exact PnAll.done | refine PnAll.two ?_ | refine PnAll.skip rfl ?_ | refine PnAll.keep (Rd.loadL rfl rfl (by first | exact Or.inl (by assumption) | (refine Or.inr ?_; repeat (first | exact List.Mem.head _ | refine List.Mem.tail _ ?_))) rfl rfl) (by first | exact veq_slice _ _ _ | exact veq_int _ _ | exact Sl.veq (by assumption) | simp [veq, veqL, veq1, ba_self]) ?_ | refine PnAll.keep (by apply Rd.loadP (o := 0); exact rfl; exact rfl; (first | assumption | (refine Pz.mono ?_ (by assumption); assumption)); exact rfl; exact rfl) (by first | exact veq_slice _ _ _ | exact veq_int _ _ | exact Sl.veq (by assumption) | simp [veq, veqL, veq1, ba_self]) ?_))
  (repeat (first | refine go ?_ | with_reducible intro _))
  refine Wk.callD rfl rfl (Spl.none _) (copyEl d fa (ha0.mono ((((hzZ1.trans hzZ2).trans hzZ5).trans hzZ6).trans hzZ9))) rfl rfl fun v1 Z10 A' hzZ10 hq => ?_
  obtain ⟨c10, rfl, h10, rfl⟩ := hq
  refine ⟨?_, ?_⟩
  · (repeat (first | exact PnAll.done | refine PnAll.two ?_ | refine PnAll.skip rfl ?_ | refine PnAll.keep (Rd.loadL rfl rfl (by first | exact Or.inl (by assumption) | (refine Or.inr ?_; repeat (first | exact List.Mem.head _ | refine List.Mem.tail _ ?_))) rfl rfl) (by first | exact veq_slice _ _ _ | exact veq_int _ _ | exact Sl.veq (by assumption) | simp [veq, veqL, veq1, ba_self]) ?_ | refine PnAll.keep (by apply Rd.loadP (o := 0); exact rfl; exact rfl; (first | assumption | (refine Pz.mono ?_ (by assumption); assumption)); exact rfl; exact rfl) (by first | exact veq_slice _ _ _ | exact veq_int _ _ | exact Sl.veq (by assumption) | simp [veq, veqL, veq1, ba_self]) ?_))
  (repeat (first | refine go ?_ | with_reducible intro _))
  refine Wk.callD rfl rfl (Spl.none _) (less_ (h9.mono hzZ10) h10 fa fa) rfl rfl fun v1 Z11 A' hzZ11 hq => ?_
  obtain ⟨rfl, rfl, rfl⟩ := hq
  refine ⟨?_, ?_⟩
  · (repeat (first | exact PnAll.done | refine PnAll.two ?_ | refine PnAll.skip rfl ?_ | refine PnAll.keep (Rd.loadL rfl rfl (by first | exact Or.inl (by assumption) | (refine Or.inr ?_; repeat (first | exact List.Mem.head _ | refine List.Mem.tail _ ?_))) rfl rfl) (by first | exact veq_slice _ _ _ | exact veq_int _ _ | exact Sl.veq (by assumption) | simp [veq, veqL, veq1, ba_self]) ?_ | refine PnAll.keep (by apply Rd.loadP (o := 0); exact rfl; exact rfl; (first | assumption | (refine Pz.mono ?_ (by assumption); assumption)); exact rfl; exact rfl) (by first | exact veq_slice _ _ _ | exact veq_int _ _ | exact Sl.veq (by assumption) | simp [veq, veqL, veq1, ba_self]) ?_))
  (repeat (first | refine go ?_ | with_reducible intro _))
  have e0 : cmpE a a = 0 := cmpE_zero.2 rfl
  refine Wk.caser 42 rfl (fun hc => ?_) (fun hc => ?_)
  rotate_left
  · rw [e0] at hc; simp at hc
  clear hc
  (repeat (first | refine go ?_ | with_reducible intro _))
  refine Wk.callD rfl rfl (Spl.none _) (Cz.ora rfl) rfl rfl fun v8 Z12 A' hz12 hq => ?_
  obtain ⟨rfl, rfl, rfl⟩ := hq
  refine ⟨?_, ?_⟩
  · (repeat (first | exact PnAll.done | refine PnAll.two ?_ | refine PnAll.skip rfl ?_ | refine PnAll.keep (Rd.loadL rfl rfl (by first | exact Or.inl (by assumption) | (refine Or.inr ?_; repeat (first | exact List.Mem.head _ | refine List.Mem.tail _ ?_))) rfl rfl) (by first | exact veq_slice _ _ _ | exact veq_int _ _ | exact Sl.veq (by assumption) | simp [veq, veqL, veq1, ba_self]) ?_ | refine PnAll.keep (by apply Rd.loadP (o := 0); exact rfl; exact rfl; (first | assumption | (refine Pz.mono ?_ (by assumption); assumption)); exact rfl; exact rfl) (by first | exact veq_slice _ _ _ | exact veq_int _ _ | exact Sl.veq (by assumption) | simp [veq, veqL, veq1, ba_self]) ?_))
  (repeat (first | refine go ?_ | with_reducible intro _))
  exact Wk.ret ⟨_, Rs.tmp rfl Rs.nil, _, Sub.none _, rfl⟩
end Go.Proofs.J
/- The law ElemLess, of arguments that are what their types say. -/
namespace Go.Proofs.J
open Go Go.Ev
set_option linter.unusedVariables false
set_option linter.unusedSimpArgs false
set_option maxHeartbeats 4000000
set_option maxRecDepth 100000
theorem wtv_elem {Z : Zone} {v : Value} (h : WtV Tryz.prog Z 31 v) : ∃ cs e d, v = .agg ⟨cs⟩ ∧ ElR Z e cs ∧ e.In d := by
  obtain ⟨⟨d, w⟩, s⟩ := h
  rw [Tryz.underlying31] at s
  obtain ⟨⟨cs⟩, rfl⟩ := s
  obtain ⟨e, he, hi⟩ := wt_elem d w
  exact ⟨cs, e, d, rfl, he, hi⟩
theorem less_law (Z : Zone) (xs : List Value) (h : All2 (fun a t => WtV Tryz.prog Z t a) xs [31, 31]) : Cz M (.func (.func 4) #[] #[]) xs Z [] (fun v _ _ => v = .bool true) := by
  cases h with
  | cons h1 h =>
    cases h with
    | cons h2 h =>
      cases h
      obtain ⟨c1, e1, d1, rfl, r1, i1⟩ := wtv_elem h1
      obtain ⟨c2, e2, d2, rfl, r2, i2⟩ := wtv_elem h2
      exact ElemLess r1 r2 i1.fit i2.fit
end Go.Proofs.J
