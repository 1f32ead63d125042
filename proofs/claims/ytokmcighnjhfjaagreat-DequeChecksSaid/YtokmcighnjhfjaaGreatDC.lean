/- DC -/
import Derived.Test.YtokmcighnjhfjaaGreatDB
import Derived.Test.YtokmcighnjhfjaaGreatRows
import Derived.Test.YtokmcighnjhfjaaGreatDTab
import Derived.Test.YtokmcighnjhfjaaGreatEvF
import Derived.Test.YtokmcighnjhfjaaGreatDA
/- The error of a deque, by the program. -/
namespace Go.Proofs.J
open Go.Ev Go
set_option linter.unusedVariables false
set_option maxHeartbeats 4000000
set_option maxRecDepth 100000
theorem check_ {Z : Zone} {cs : List Value} {d : Dq} (h : DqR Z cs d) (ho : d.owner.length ≤ 1000) (ht : d.thieves.length ≤ 1000) :
    Cz M (.func (.func 19) #[] #[]) [.agg ⟨cs⟩] Z [] (fun v' Z' A' => v' = .int .i64 (DqE d) ∧ A' = []) := by
  obtain ⟨a, b, c, e0, rfl, so, st⟩ := h.form
  have hpl := pushedOf_len d.owner
  refine Cz.fn (f := Tryz.f19) (by kernel_rfl) rfl rfl rfl _ rfl ?_
  (repeat (first | refine go ?_ | with_reducible intro _))
  rename_i b1
  first | refine Wk.freezer Rem.head fun Z1 e1 h1 => ?_ | refine Wk.freeze Rem.head fun Z1 e1 h1 => ?_
  have so1 := so.mono e1
  have st1 := st.mono e1
  refine Wk.olNil 1 ?_
  refine Wk.loop (fun mm L Z' A' => ∃ (j : Nat) (v : Value), j ≤ d.owner.length ∧ mm = d.owner.length - j ∧ Z1 = Z' ∧ A' = [ol 1 v (pushedOf (d.owner.take j)).length (nums (pushedOf (d.owner.take j)))] ∧ Kp L [(1, .pointer (some ⟨b1, 0, none⟩)), (3, v), (8, .slice a d.owner.length b), (9, .int .i64 d.owner.length), (10, .int .i64 j)]) d.owner.length ⟨0, .slice none 0 0, Nat.zero_le _, rfl, rfl, rfl, (by repeat (first | exact trivial | refine And.intro rfl ?_ | refine And.intro (kpI rfl (by omega)) ?_))⟩ ?_
  rintro mm L Z' A' - ⟨j, v, hj, rfl, rfl, rfl, hk⟩
  refine Wk.kp hk ?_
  clear hk
  refine Wk.know (by repeat (first | exact Rem.head | apply Rem.tail)) (fun s h => ol.form (v := v) h) ?_
  rintro ⟨av, cv, rfl⟩
  have hpj := pushedOf_len (d.owner.take j)
  rw [List.length_take] at hpj
  (repeat (first | refine go ?_ | with_reducible intro _))
  refine Wk.cond rfl (fun hc => ?_) (fun hc => ?_)
  · have hlt : j < d.owner.length := by simp at hc; omega
    clear hc
    have e2 := actL_get hlt
    have hst := pushedOf_take hlt
    (repeat (first | refine go ?_ | with_reducible intro _))
    refine Wk.cond rfl (fun hp => ?_) (fun hp => ?_)
    · rw [if_pos hp] at hst
      (repeat (first | refine go ?_ | with_reducible intro _))
      refine Wk.bs (cs := [.int .i64 d.owner[j].n]) rfl rfl rfl rfl rfl rfl rfl fun b19 => ?_
      refine Wk.append (kk := 1) (new := [.int .i64 d.owner[j].n]) rfl rfl rfl rfl rfl rfl rfl rfl (by repeat (first | exact Rem.head | apply Rem.tail)) (Src.lit (by first | exact Or.inl (by assumption) | (refine Or.inr ?_; repeat (first | exact List.Mem.head _ | refine List.Mem.tail _ ?_))) rfl) rfl rfl rfl (by omega) (by omega) (by kernel_rfl) rfl rfl fun v20 => ?_
      refine Wk.dropr (B := [_]) (.keep (Sub.none _)) ?_
      (repeat (first | refine go ?_ | with_reducible intro _))
      refine Wk.inv ⟨_, by omega, j + 1, v20, hlt, rfl, rfl, ?_, (by repeat (first | exact trivial | refine And.intro rfl ?_ | refine And.intro (kpI rfl (by omega)) ?_))⟩
      rw [hst, List.length_append, nums_append]; rfl
    · rw [if_neg (by simp [hp])] at hst
      refine Wk.drop (B := [_]) (.drop (Sub.refl _)) ?_
      (repeat (first | refine go ?_ | with_reducible intro _))
      refine Wk.inv ⟨_, by omega, j + 1, _, hlt, rfl, rfl, ?_, (by repeat (first | exact trivial | refine And.intro rfl ?_ | refine And.intro (kpI rfl (by omega)) ?_))⟩
      rw [hst]
  have hjn : j = d.owner.length := by simp at hc; omega
  subst hjn
  clear hc hpj
  have htl : d.owner.take d.owner.length = d.owner := List.take_length
  rw [htl]
  (repeat (first | refine go ?_ | with_reducible intro _))
  refine Wk.call rfl rfl (.l .nil) (sortOl (l := pushedOf d.owner) (by omega)) rfl rfl rfl ?_
  rintro v' Z' A' hz ⟨vs, ⟨rfl, e, rfl, hpe, hse⟩, rfl⟩
  have hel : e.length = (pushedOf d.owner).length := hpe.length_eq
  (repeat (first | refine go ?_ | with_reducible intro _))
  refine Wk.caser 29 rfl (fun h1' => ?_) (fun h1' => ?_)
  · (repeat (first | refine go ?_ | with_reducible intro _))
    refine Wk.ret ⟨_, Rs.tmp rfl Rs.nil, _, Sub.none _, congrArg (Value.int .i64) ((DqE_lim fun k => by have := k.1; simp at h1'; omega).symm), rfl⟩
  have o1 : d.owner.length ≤ 8 := by simp at h1'; omega
  clear h1'
  (repeat (first | refine go ?_ | with_reducible intro _))
  refine Wk.caser 35 rfl (fun h1' => ?_) (fun h1' => ?_)
  · (repeat (first | refine go ?_ | with_reducible intro _))
    refine Wk.ret ⟨_, Rs.tmp rfl Rs.nil, _, Sub.none _, congrArg (Value.int .i64) ((DqE_lim fun k => by have := k.2.1; simp at h1'; omega).symm), rfl⟩
  have o2 : d.thieves.length ≤ 3 := by simp at h1'; omega
  clear h1'
  (repeat (first | refine go ?_ | with_reducible intro _))
  refine Wk.call rfl rfl (Spl.none _) (anySl (fun n => 4 < n) st1 (by omega) (fun x hx => chk2_)) rfl rfl rfl ?_
  rintro v' Z' A' hz ⟨⟨r, rfl, hr⟩, rfl, rfl⟩
  (repeat (first | refine go ?_ | with_reducible intro _))
  refine Wk.cond rfl (fun hc => ?_) (fun hc => ?_)
  · (repeat (first | refine go ?_ | with_reducible intro _))
    refine Wk.ret ⟨_, Rs.tmp rfl Rs.nil, _, Sub.none _, congrArg (Value.int .i64) ((DqE_lim fun k => by obtain ⟨x, hx, hx2⟩ := hr.1 hc; have := k.2.2 x hx; omega).symm), rfl⟩
  have lim : d.Lim := ⟨o1, o2, fun n hn => Classical.byContradiction fun q => by rw [hr.2 ⟨n, hn, by omega⟩] at hc; cases hc⟩
  clear hc hr
  (repeat (first | refine go ?_ | with_reducible intro _))
  refine Wk.call rfl rfl (Spl.none _) (within_) rfl rfl rfl ?_
  rintro v' Z' A' hz ⟨⟨r, rfl, hr⟩, rfl, rfl⟩
  (repeat (first | refine go ?_ | with_reducible intro _))
  refine Wk.caser 45 rfl (fun h1' => ?_) (fun h1' => ?_)
  · (repeat (first | refine go ?_ | with_reducible intro _))
    refine Wk.ret ⟨_, Rs.tmp rfl Rs.nil, _, Sub.none _, congrArg (Value.int .i64) ((DqE_rng lim fun k => by rw [hr.2 k.1] at h1'; cases h1').symm), rfl⟩
  have g1 : 1 ≤ d.size ∧ d.size ≤ 4 := hr.1 (by simpa using h1')
  clear h1' hr
  (repeat (first | refine go ?_ | with_reducible intro _))
  refine Wk.call rfl rfl (Spl.none _) (within_) rfl rfl rfl ?_
  rintro v' Z' A' hz ⟨⟨r, rfl, hr⟩, rfl, rfl⟩
  (repeat (first | refine go ?_ | with_reducible intro _))
  refine Wk.caser 51 rfl (fun h1' => ?_) (fun h1' => ?_)
  · (repeat (first | refine go ?_ | with_reducible intro _))
    refine Wk.ret ⟨_, Rs.tmp rfl Rs.nil, _, Sub.none _, congrArg (Value.int .i64) ((DqE_rng lim fun k => by rw [hr.2 k.2.1] at h1'; cases h1').symm), rfl⟩
  have g2 : 1 ≤ d.room ∧ d.room ≤ 8 := hr.1 (by simpa using h1')
  clear h1' hr
  (repeat (first | refine go ?_ | with_reducible intro _))
  refine Wk.call rfl rfl (.l .nil) (anyOl (l := e) (fun n => ¬ Item n) hel (by omega) (fun x hx => chk1_)) rfl rfl rfl ?_
  rintro v' Z' A' hz ⟨vs, ⟨⟨r, rfl, hr⟩, rfl, rfl⟩, rfl⟩
  (repeat (first | refine go ?_ | with_reducible intro _))
  refine Wk.caser 56 rfl (fun h1' => ?_) (fun h1' => ?_)
  · (repeat (first | refine go ?_ | with_reducible intro _))
    refine Wk.ret ⟨_, Rs.tmp rfl Rs.nil, _, Sub.none _, congrArg (Value.int .i64) ((DqE_rng lim fun k => by obtain ⟨x, hx, hx2⟩ := hr.1 h1'; exact hx2 (k.2.2.1 x (hpe.mem_iff.1 hx))).symm), rfl⟩
  have g3 : ∀ n ∈ pushedOf d.owner, Item n := fun n hn => Classical.byContradiction fun q => by rw [hr.2 ⟨n, hpe.mem_iff.2 hn, q⟩] at h1'; cases h1'
  clear h1' hr
  (repeat (first | refine go ?_ | with_reducible intro _))
  refine Wk.call rfl rfl (Spl.none _) (anySl (fun n => n < 0) st1 (by omega) (fun x hx => chk3_)) rfl rfl rfl ?_
  rintro v' Z' A' hz ⟨⟨r, rfl, hr⟩, rfl, rfl⟩
  (repeat (first | refine go ?_ | with_reducible intro _))
  refine Wk.cond rfl (fun hc => ?_) (fun hc => ?_)
  · (repeat (first | refine go ?_ | with_reducible intro _))
    refine Wk.ret ⟨_, Rs.tmp rfl Rs.nil, _, Sub.none _, congrArg (Value.int .i64) ((DqE_rng lim fun k => by obtain ⟨x, hx, hx2⟩ := hr.1 hc; have := k.2.2.2 x hx; omega).symm), rfl⟩
  have rng : d.Rng := ⟨g1, g2, g3, fun n hn => Classical.byContradiction fun q => by rw [hr.2 ⟨n, hn, by omega⟩] at hc; cases hc⟩
  clear hc hr
  (repeat (first | refine go ?_ | with_reducible intro _))
  refine Wk.call rfl rfl (Spl.none _) (anyAct (fun a => ¬ (a.push = true ∨ a.n = 0)) so1 (by omega) (fun x hx => chk4_)) rfl rfl rfl ?_
  rintro v' Z' A' hz ⟨⟨r, rfl, hr⟩, rfl, rfl⟩
  (repeat (first | refine go ?_ | with_reducible intro _))
  refine Wk.cond rfl (fun hc => ?_) (fun hc => ?_)
  · (repeat (first | refine go ?_ | with_reducible intro _))
    refine Wk.ret ⟨_, Rs.tmp rfl Rs.nil, _, Sub.none _, congrArg (Value.int .i64) ((DqE_frm lim rng fun k => by obtain ⟨x, hx, hx2⟩ := hr.1 hc; exact hx2 (k x hx)).symm), rfl⟩
  have frm : d.Frm := fun x hx => Classical.byContradiction fun q => by rw [hr.2 ⟨x, hx, q⟩] at hc; cases hc
  clear hc hr
  (repeat (first | refine go ?_ | with_reducible intro _))
  refine Wk.call rfl rfl (.l .nil) (compactOl (l := e) hel (by omega)) rfl rfl rfl ?_
  rintro v67 Z' A' hz ⟨rfl, w, rfl⟩
  first | refine Wk.knowr (by repeat (first | exact Rem.head | apply Rem.tail)) (fun s h => ol.form (v := v67) h) ?_ | refine Wk.know (by repeat (first | exact Rem.head | apply Rem.tail)) (fun s h => ol.form (v := v67) h) ?_
  rintro ⟨a67, c67, rfl⟩
  have hcl := cpt_lt hse
  rw [hpe.nodup_iff, hel] at hcl
  (repeat (first | refine go ?_ | with_reducible intro _))
  refine Wk.cond rfl (fun hc => ?_) (fun hc => ?_)
  · (repeat (first | refine go ?_ | with_reducible intro _))
    refine Wk.ret ⟨_, Rs.tmp rfl Rs.nil, _, Sub.none _, congrArg (Value.int .i64) ((DqE_onc lim rng frm (hcl.1 (by simp at hc; omega))).symm), rfl⟩
  · have onc : d.Onc := Classical.byContradiction fun q => by have := hcl.2 q; simp at hc; omega
    (repeat (first | refine go ?_ | with_reducible intro _))
    refine Wk.ret ⟨_, Rs.tmp rfl Rs.nil, _, Sub.none _, congrArg (Value.int .i64) ((DqE_ok ⟨lim, rng, frm, onc⟩).symm), rfl⟩
end Go.Proofs.J
/- The error of a deque, by the reference. -/
namespace Go.Proofs.J
open Go.Ev Go
set_option linter.unusedVariables false
set_option maxHeartbeats 4000000
set_option maxRecDepth 100000
theorem pushedOf_eq : ∀ (l : List Act), pushedOf l = (l.filter (fun a => a.push)).map (fun a => a.n)
  | [] => rfl
  | a :: l => by
    rw [pushedOf, pushedOf_eq l, List.filter_cons]
    split <;> rfl
theorem nodup_pushed {l : List Act} : (pushedOf l).Nodup ↔ ∀ i k (hi : i < l.length) (hk : k < i), ¬ (l[i].push = true ∧ l[k].push = true ∧ l[i].n = l[k].n) := by
  rw [pushedOf_eq, List.Nodup, List.pairwise_map, List.pairwise_filter, List.pairwise_iff_getElem]
  constructor
  · intro h i k hi hk ⟨h1, h2, h3⟩
    exact h k i (by omega) hi hk h2 h1 h3.symm
  · intro h i j hi hj hij h1 h2 h3
    exact h j i hj hij ⟨h2, h1, h3.symm⟩
def Tw (l : List Act) (i k : Nat) : Prop := ∃ (hi : i < l.length) (hk : k < l.length), l[i].push = true ∧ l[k].push = true ∧ l[i].n = l[k].n
theorem rCheck {Z : Zone} {cs : List Value} {d : Dq} (h : DqR Z cs d) (ho : d.owner.length ≤ 1000) (ht : d.thieves.length ≤ 1000) :
    Cz M (.func (.func 13) #[] #[]) [.agg ⟨cs⟩] Z [] (fun v' Z' A' => v' = .int .i64 (DqE d) ∧ A' = []) := by
  obtain ⟨a, b, c, e0, rfl, so, st⟩ := h.form
  refine Cz.fn (f := Tryz.f13) (by kernel_rfl) rfl rfl rfl _ rfl ?_
  (repeat (first | refine go ?_ | with_reducible intro _))
  rename_i b1
  first | refine Wk.freezer Rem.head fun Z1 e1 h1 => ?_ | refine Wk.freeze Rem.head fun Z1 e1 h1 => ?_
  have so := so.mono e1
  have st := st.mono e1
  refine Wk.caser 13 rfl (fun h1' => ?_) (fun h1' => ?_)
  · (repeat (first | refine go ?_ | with_reducible intro _))
    refine Wk.ret ⟨_, Rs.tmp rfl Rs.nil, _, Sub.none _, congrArg (Value.int .i64) ((DqE_lim fun k => by have := k.1; simp at h1'; omega).symm), rfl⟩
  have o1 : d.owner.length ≤ 8 := by simp at h1'; omega
  clear h1'
  (repeat (first | refine go ?_ | with_reducible intro _))
  refine Wk.cond rfl (fun h1' => ?_) (fun h1' => ?_)
  · (repeat (first | refine go ?_ | with_reducible intro _))
    refine Wk.ret ⟨_, Rs.tmp rfl Rs.nil, _, Sub.none _, congrArg (Value.int .i64) ((DqE_lim fun k => by have := k.2.1; simp at h1'; omega).symm), rfl⟩
  have o2 : d.thieves.length ≤ 3 := by simp at h1'; omega
  clear h1'
  (repeat (first | refine go ?_ | with_reducible intro _))
  refine Wk.loop (fun mm L Z' A' => ∃ j : Nat, j ≤ d.thieves.length ∧ mm = d.thieves.length - j ∧ Z1 = Z' ∧ Sub A' [] ∧ (∀ i (h : i < d.thieves.length), i < j → d.thieves[i] ≤ 4) ∧ Kp L [(1, .pointer (some ⟨b1, 0, none⟩)), (3, .int .i64 j)]) (d.thieves.length) ⟨0, Nat.zero_le _, rfl, rfl, (by repeat (first | exact Sub.none _ | exact Sub.refl _ | refine Sub.keep ?_ | refine Sub.drop ?_)), fun i h hi => by omega, (by repeat (first | exact trivial | refine And.intro rfl ?_ | refine And.intro (kpI rfl (by omega)) ?_))⟩ ?_
  rintro mm L Z' A' - ⟨j, hj, rfl, rfl, hsub, inv, hk⟩
  refine Wk.drop hsub ?_
  refine Wk.kp hk ?_
  clear hk hsub
  (repeat (first | refine go ?_ | with_reducible intro _))
  refine Wk.cond rfl (fun hc => ?_) (fun hc => ?_)
  · have hlt : j < d.thieves.length := by simp at hc; omega
    clear hc
    (repeat (first | refine go ?_ | with_reducible intro _))
    refine Wk.cond rfl (fun hq => ?_) (fun hq => ?_)
    · (repeat (first | refine go ?_ | with_reducible intro _))
      refine Wk.ret ⟨_, Rs.tmp rfl Rs.nil, _, Sub.none _, congrArg (Value.int .i64) ((DqE_lim fun k => by have := k.2.2 _ (List.getElem_mem hlt); simp at hq; omega).symm), rfl⟩
    · (repeat (first | refine go ?_ | with_reducible intro _))
      refine Wk.inv ⟨_, by omega, j + 1, by omega, rfl, rfl, (by repeat (first | exact Sub.none _ | exact Sub.refl _ | refine Sub.keep ?_ | refine Sub.drop ?_)), fun i h hi => ?_, (by repeat (first | exact trivial | refine And.intro rfl ?_ | refine And.intro (kpI rfl (by omega)) ?_))⟩
      by_cases e : i = j
      · subst e; simp at hq; omega
      · exact inv i h (by omega)
  have lim : d.Lim := ⟨o1, o2, fun n hn => by obtain ⟨i, hi, rfl⟩ := List.getElem_of_mem hn; exact inv i hi (by simp at hc; omega)⟩
  clear inv hc hj
  (repeat (first | refine go ?_ | with_reducible intro _))
  refine Wk.call rfl rfl (Spl.none _) (rIn) rfl rfl rfl ?_
  rintro v' Z' A' hz ⟨⟨r, rfl, hr⟩, rfl, rfl⟩
  (repeat (first | refine go ?_ | with_reducible intro _))
  refine Wk.caser 36 rfl (fun h1' => ?_) (fun h1' => ?_)
  · (repeat (first | refine go ?_ | with_reducible intro _))
    refine Wk.ret ⟨_, Rs.tmp rfl Rs.nil, _, Sub.none _, congrArg (Value.int .i64) ((DqE_rng lim fun k => by rw [hr.2 k.1] at h1'; cases h1').symm), rfl⟩
  have g1 : 1 ≤ d.size ∧ d.size ≤ 4 := hr.1 (by simpa using h1')
  clear h1' hr
  (repeat (first | refine go ?_ | with_reducible intro _))
  refine Wk.call rfl rfl (Spl.none _) (rIn) rfl rfl rfl ?_
  rintro v' Z' A' hz ⟨⟨r, rfl, hr⟩, rfl, rfl⟩
  (repeat (first | refine go ?_ | with_reducible intro _))
  refine Wk.cond rfl (fun h1' => ?_) (fun h1' => ?_)
  · (repeat (first | refine go ?_ | with_reducible intro _))
    refine Wk.ret ⟨_, Rs.tmp rfl Rs.nil, _, Sub.none _, congrArg (Value.int .i64) ((DqE_rng lim fun k => by rw [hr.2 k.2.1] at h1'; cases h1').symm), rfl⟩
  have g2 : 1 ≤ d.room ∧ d.room ≤ 8 := hr.1 (by simpa using h1')
  clear h1' hr
  (repeat (first | refine go ?_ | with_reducible intro _))
  refine Wk.loop (fun mm L Z' A' => ∃ j : Nat, j ≤ d.thieves.length ∧ mm = d.thieves.length - j ∧ Z1 = Z' ∧ Sub A' [] ∧ (∀ i (h : i < d.thieves.length), i < j → 0 ≤ d.thieves[i]) ∧ Kp L [(1, .pointer (some ⟨b1, 0, none⟩)), (4, .int .i64 j)]) (d.thieves.length) ⟨0, Nat.zero_le _, rfl, rfl, (by repeat (first | exact Sub.none _ | exact Sub.refl _ | refine Sub.keep ?_ | refine Sub.drop ?_)), fun i h hi => by omega, (by repeat (first | exact trivial | refine And.intro rfl ?_ | refine And.intro (kpI rfl (by omega)) ?_))⟩ ?_
  rintro mm L Z' A' - ⟨j, hj, rfl, rfl, hsub, inv, hk⟩
  refine Wk.drop hsub ?_
  refine Wk.kp hk ?_
  clear hk hsub
  (repeat (first | refine go ?_ | with_reducible intro _))
  refine Wk.cond rfl (fun hc => ?_) (fun hc => ?_)
  · have hlt : j < d.thieves.length := by simp at hc; omega
    clear hc
    (repeat (first | refine go ?_ | with_reducible intro _))
    refine Wk.cond rfl (fun hq => ?_) (fun hq => ?_)
    · (repeat (first | refine go ?_ | with_reducible intro _))
      refine Wk.ret ⟨_, Rs.tmp rfl Rs.nil, _, Sub.none _, congrArg (Value.int .i64) ((DqE_rng lim fun k => by have := k.2.2.2 _ (List.getElem_mem hlt); simp at hq; omega).symm), rfl⟩
    · (repeat (first | refine go ?_ | with_reducible intro _))
      refine Wk.inv ⟨_, by omega, j + 1, by omega, rfl, rfl, (by repeat (first | exact Sub.none _ | exact Sub.refl _ | refine Sub.keep ?_ | refine Sub.drop ?_)), fun i h hi => ?_, (by repeat (first | exact trivial | refine And.intro rfl ?_ | refine And.intro (kpI rfl (by omega)) ?_))⟩
      by_cases e : i = j
      · subst e; simp at hq; omega
      · exact inv i h (by omega)
  have g4 : ∀ n ∈ d.thieves, 0 ≤ n := fun n hn => by obtain ⟨i, hi, rfl⟩ := List.getElem_of_mem hn; exact inv i hi (by simp at hc; omega)
  clear inv hc hj
  (repeat (first | refine go ?_ | with_reducible intro _))
  refine Wk.loop (fun mm L Z' A' => ∃ j : Nat, j ≤ d.owner.length ∧ mm = d.owner.length - j ∧ Z1 = Z' ∧ Sub A' [] ∧ (∀ i (h : i < d.owner.length), i < j → d.owner[i].push = true → Item d.owner[i].n) ∧ Kp L [(1, .pointer (some ⟨b1, 0, none⟩)), (5, .int .i64 j)]) (d.owner.length) ⟨0, Nat.zero_le _, rfl, rfl, (by repeat (first | exact Sub.none _ | exact Sub.refl _ | refine Sub.keep ?_ | refine Sub.drop ?_)), fun i h hi => by omega, (by repeat (first | exact trivial | refine And.intro rfl ?_ | refine And.intro (kpI rfl (by omega)) ?_))⟩ ?_
  rintro mm L Z' A' - ⟨j, hj, rfl, rfl, hsub, inv, hk⟩
  refine Wk.drop hsub ?_
  refine Wk.kp hk ?_
  clear hk hsub
  (repeat (first | refine go ?_ | with_reducible intro _))
  refine Wk.cond rfl (fun hc => ?_) (fun hc => ?_)
  · have hlt : j < d.owner.length := by simp at hc; omega
    clear hc
    have e2 := actL_get hlt
    (repeat (first | refine go ?_ | with_reducible intro _))
    refine Wk.caser 68 rfl (fun hp => ?_) (fun hp => ?_)
    · (repeat (first | refine go ?_ | with_reducible intro _))
      refine Wk.loadP (o := 1) rfl rfl (by assumption) rfl rfl rfl rfl ?_
      (repeat (first | refine go ?_ | with_reducible intro _))
      refine Wk.call rfl rfl (Spl.none _) (rIsItem) rfl rfl rfl ?_
      rintro v' Z' A' hz ⟨⟨r, rfl, hr⟩, rfl, rfl⟩
      (repeat (first | refine go ?_ | with_reducible intro _))
      refine Wk.cond rfl (fun hq => ?_) (fun hq => ?_)
      · (repeat (first | refine go ?_ | with_reducible intro _))
        refine Wk.ret ⟨_, Rs.tmp rfl Rs.nil, _, Sub.none _, congrArg (Value.int .i64) ((DqE_rng lim fun k => by rw [hr.2 (k.2.2.1 _ (mem_pushed.2 ⟨_, List.getElem_mem hlt, hp, rfl⟩))] at hq; cases hq).symm), rfl⟩
      · (repeat (first | refine go ?_ | with_reducible intro _))
        refine Wk.inv ⟨_, by omega, j + 1, by omega, rfl, rfl, (by repeat (first | exact Sub.none _ | exact Sub.refl _ | refine Sub.keep ?_ | refine Sub.drop ?_)), fun i h hi h1 => ?_, (by repeat (first | exact trivial | refine And.intro rfl ?_ | refine And.intro (kpI rfl (by omega)) ?_))⟩
        by_cases e : i = j
        · subst e; exact hr.1 (by simpa using hq)
        · exact inv i h (by omega) h1
    · (repeat (first | refine go ?_ | with_reducible intro _))
      refine Wk.inv ⟨_, by omega, j + 1, by omega, rfl, rfl, (by repeat (first | exact Sub.none _ | exact Sub.refl _ | refine Sub.keep ?_ | refine Sub.drop ?_)), fun i h hi h1 => ?_, (by repeat (first | exact trivial | refine And.intro rfl ?_ | refine And.intro (kpI rfl (by omega)) ?_))⟩
      by_cases e : i = j
      · subst e; rw [h1] at hp; cases hp
      · exact inv i h (by omega) h1
  have rng : d.Rng := ⟨g1, g2, fun n hn => by obtain ⟨x, hx, h1, rfl⟩ := mem_pushed.1 hn; obtain ⟨i, hi, rfl⟩ := List.getElem_of_mem hx; exact inv i hi (by simp at hc; omega) h1, g4⟩
  clear inv hc hj
  (repeat (first | refine go ?_ | with_reducible intro _))
  refine Wk.loop (fun mm L Z' A' => ∃ j : Nat, j ≤ d.owner.length ∧ mm = d.owner.length - j ∧ Z1 = Z' ∧ Sub A' [] ∧ (∀ i (h : i < d.owner.length), i < j → (d.owner[i].push = true ∨ d.owner[i].n = 0)) ∧ Kp L [(1, .pointer (some ⟨b1, 0, none⟩)), (6, .int .i64 j)]) (d.owner.length) ⟨0, Nat.zero_le _, rfl, rfl, (by repeat (first | exact Sub.none _ | exact Sub.refl _ | refine Sub.keep ?_ | refine Sub.drop ?_)), fun i h hi => by omega, (by repeat (first | exact trivial | refine And.intro rfl ?_ | refine And.intro (kpI rfl (by omega)) ?_))⟩ ?_
  rintro mm L Z' A' - ⟨j, hj, rfl, rfl, hsub, inv, hk⟩
  refine Wk.drop hsub ?_
  refine Wk.kp hk ?_
  clear hk hsub
  (repeat (first | refine go ?_ | with_reducible intro _))
  refine Wk.cond rfl (fun hc => ?_) (fun hc => ?_)
  · have hlt : j < d.owner.length := by simp at hc; omega
    clear hc
    have e2 := actL_get hlt
    (repeat (first | refine go ?_ | with_reducible intro _))
    refine Wk.caser 92 rfl (fun hp => ?_) (fun hp => ?_)
    · (repeat (first | refine go ?_ | with_reducible intro _))
      refine Wk.loadP (o := 1) rfl rfl (by assumption) rfl rfl rfl rfl ?_
      (repeat (first | refine go ?_ | with_reducible intro _))
      refine Wk.cond rfl (fun hq => ?_) (fun hq => ?_)
      · (repeat (first | refine go ?_ | with_reducible intro _))
        refine Wk.ret ⟨_, Rs.tmp rfl Rs.nil, _, Sub.none _, congrArg (Value.int .i64) ((DqE_frm lim rng fun k => by have := k _ (List.getElem_mem hlt); simp at hp hq; simp [hp, hq] at this).symm), rfl⟩
      · (repeat (first | refine go ?_ | with_reducible intro _))
        refine Wk.inv ⟨_, by omega, j + 1, by omega, rfl, rfl, (by repeat (first | exact Sub.none _ | exact Sub.refl _ | refine Sub.keep ?_ | refine Sub.drop ?_)), fun i h hi => ?_, (by repeat (first | exact trivial | refine And.intro rfl ?_ | refine And.intro (kpI rfl (by omega)) ?_))⟩
        by_cases e : i = j
        · subst e; exact .inr (by simpa using hq)
        · exact inv i h (by omega)
    · (repeat (first | refine go ?_ | with_reducible intro _))
      refine Wk.inv ⟨_, by omega, j + 1, by omega, rfl, rfl, (by repeat (first | exact Sub.none _ | exact Sub.refl _ | refine Sub.keep ?_ | refine Sub.drop ?_)), fun i h hi => ?_, (by repeat (first | exact trivial | refine And.intro rfl ?_ | refine And.intro (kpI rfl (by omega)) ?_))⟩
      by_cases e : i = j
      · subst e; exact .inl (by simpa using hp)
      · exact inv i h (by omega)
  have frm : d.Frm := fun x hx => by obtain ⟨i, hi, rfl⟩ := List.getElem_of_mem hx; exact inv i hi (by simp at hc; omega)
  clear inv hc hj
  (repeat (first | refine go ?_ | with_reducible intro _))
  refine Wk.loop (fun mm L Z' A' => ∃ j : Nat, j ≤ d.owner.length ∧ mm = d.owner.length - j ∧ Z1 = Z' ∧ Sub A' [] ∧ (∀ i k, i < j → k < i → ¬ Tw d.owner i k) ∧ Kp L [(1, .pointer (some ⟨b1, 0, none⟩)), (7, .int .i64 j)]) (d.owner.length) ⟨0, Nat.zero_le _, rfl, rfl, (by repeat (first | exact Sub.none _ | exact Sub.refl _ | refine Sub.keep ?_ | refine Sub.drop ?_)), fun i k hi => by omega, (by repeat (first | exact trivial | refine And.intro rfl ?_ | refine And.intro (kpI rfl (by omega)) ?_))⟩ ?_
  rintro mm L Z' A' - ⟨j, hj, rfl, rfl, hsub, inv, hk⟩
  refine Wk.drop hsub ?_
  refine Wk.kp hk ?_
  clear hk hsub
  (repeat (first | refine go ?_ | with_reducible intro _))
  refine Wk.cond rfl (fun hc => ?_) (fun hc => ?_)
  · have hlt : j < d.owner.length := by simp at hc; omega
    clear hc
    have e2 := actL_get hlt
    have invj := inv
    clear inv
    (repeat (first | refine go ?_ | with_reducible intro _))
    refine Wk.loop (fun mm L Z' A' => ∃ k : Nat, k ≤ j ∧ mm = j - k ∧ Z1 = Z' ∧ Sub A' [] ∧ (∀ x, x < k → ¬ Tw d.owner j x) ∧ Kp L [(1, .pointer (some ⟨b1, 0, none⟩)), (7, .int .i64 j), (8, .int .i64 k)]) (j) ⟨0, Nat.zero_le _, rfl, rfl, (by repeat (first | exact Sub.none _ | exact Sub.refl _ | refine Sub.keep ?_ | refine Sub.drop ?_)), fun x hx => by omega, (by repeat (first | exact trivial | refine And.intro rfl ?_ | refine And.intro (kpI rfl (by omega)) ?_))⟩ ?_
    rintro mm L Z' A' - ⟨k, hj, rfl, rfl, hsub, inv, hk⟩
    refine Wk.drop hsub ?_
    refine Wk.kp hk ?_
    clear hk hsub
    (repeat (first | refine go ?_ | with_reducible intro _))
    refine Wk.cond rfl (fun hc => ?_) (fun hc => ?_)
    · have hkt : k < j := by simp at hc; omega
      clear hc
      have e3 := actL_get (l := d.owner) (j := k) (by omega)
      (repeat (first | refine go ?_ | with_reducible intro _))
      refine Wk.drawr (ms := [0, 1, 0, 7, 15, 31, 63, 127, 255, 127, 1023, 2047, 4095, 8191, 16383, 32767, 65535, 32767, 262143, 524287, 1048575, 32767, 2129919, 32767, 14712831, 31490047, 65044479, 134217727, 268435455]) (l := [0, 1, 2, 3, 4, 5, 6, 7, 8, 9, 10, 11, 12, 13, 14, 15, 16, 17, 18, 19, 20, 21, 22, 23, 24, 25, 26, 27, 28]) (by kernel_rfl) (by kernel_rfl) (by kernel_rfl) rfl ?_
      (repeat (first | refine go ?_ | with_reducible intro _))
      refine Wk.caser 119 rfl (fun hp => ?_) (fun hp => ?_)
      · (repeat (first | refine go ?_ | with_reducible intro _))
        refine Wk.caser 127 rfl (fun hq => ?_) (fun hq => ?_)
        · (repeat (first | refine go ?_ | with_reducible intro _))
          refine Wk.loadP (o := 1) rfl rfl (by assumption) rfl rfl rfl rfl ?_
          (repeat (first | refine go ?_ | with_reducible intro _))
          refine Wk.loadP (o := 1) rfl rfl (by assumption) rfl rfl rfl rfl ?_
          (repeat (first | refine go ?_ | with_reducible intro _))
          refine Wk.cond rfl (fun hw => ?_) (fun hw => ?_)
          · (repeat (first | refine go ?_ | with_reducible intro _))
            refine Wk.ret ⟨_, Rs.tmp rfl Rs.nil, _, Sub.none _, congrArg (Value.int .i64) ((DqE_onc lim rng frm fun q => (nodup_pushed.1 q) j k hlt hkt ⟨hp, hq, by simpa using hw⟩).symm), rfl⟩
          · (repeat (first | refine go ?_ | with_reducible intro _))
            refine Wk.inv ⟨_, by omega, k + 1, by omega, rfl, rfl, (by repeat (first | exact Sub.none _ | exact Sub.refl _ | refine Sub.keep ?_ | refine Sub.drop ?_)), fun x hx => ?_, (by repeat (first | exact trivial | refine And.intro rfl ?_ | refine And.intro (kpI rfl (by omega)) ?_))⟩
            by_cases e : x = k
            · subst e; exact fun ⟨_, _, _, _, q⟩ => by simp at hw; exact hw q
            · exact inv x (by omega)
        · (repeat (first | refine go ?_ | with_reducible intro _))
          refine Wk.inv ⟨_, by omega, k + 1, by omega, rfl, rfl, (by repeat (first | exact Sub.none _ | exact Sub.refl _ | refine Sub.keep ?_ | refine Sub.drop ?_)), fun x hx => ?_, (by repeat (first | exact trivial | refine And.intro rfl ?_ | refine And.intro (kpI rfl (by omega)) ?_))⟩
          by_cases e : x = k
          · subst e; exact fun ⟨_, _, _, q, _⟩ => by rw [q] at hq; cases hq
          · exact inv x (by omega)
      · (repeat (first | refine go ?_ | with_reducible intro _))
        refine Wk.inv ⟨_, by omega, k + 1, by omega, rfl, rfl, (by repeat (first | exact Sub.none _ | exact Sub.refl _ | refine Sub.keep ?_ | refine Sub.drop ?_)), fun x hx => ?_, (by repeat (first | exact trivial | refine And.intro rfl ?_ | refine And.intro (kpI rfl (by omega)) ?_))⟩
        exact fun ⟨_, _, q, _⟩ => by rw [q] at hp; cases hp
    · (repeat (first | refine go ?_ | with_reducible intro _))
      refine Wk.inv ⟨_, by omega, j + 1, by omega, rfl, rfl, (by repeat (first | exact Sub.none _ | exact Sub.refl _ | refine Sub.keep ?_ | refine Sub.drop ?_)), fun i x hi hx => ?_, (by repeat (first | exact trivial | refine And.intro rfl ?_ | refine And.intro (kpI rfl (by omega)) ?_))⟩
      by_cases e : i = j
      · subst e; exact inv x (by simp at hc; omega)
      · exact invj i x (by omega) hx
  have onc : d.Onc := nodup_pushed.2 fun i k hi hk ⟨q1, q2, q3⟩ => inv i k (by simp at hc; omega) hk ⟨hi, by omega, q1, q2, q3⟩
  (repeat (first | refine go ?_ | with_reducible intro _))
  refine Wk.ret ⟨_, Rs.tmp rfl Rs.nil, _, Sub.none _, congrArg (Value.int .i64) ((DqE_ok ⟨lim, rng, frm, onc⟩).symm), rfl⟩
end Go.Proofs.J
/- Pushes, pops and steals, by the reference. -/
namespace Go.Proofs.J
open Go.Ev Go
set_option linter.unusedVariables false
set_option maxHeartbeats 4000000
set_option maxRecDepth 100000
theorem rThree {Z : Zone} {o a b c n : Int} : Cz M (.func (.func 63) #[] #[]) [.int .u8 o, .int .i64 a, .int .i64 b, .int .i64 c, .int .i64 n] Z [] (fun v' Z' A' => v' = .agg ⟨insC ⟨o, a, b, c, 0, n⟩⟩ ∧ Z = Z' ∧ A' = []) := by
  refine Cz.fn (f := Tryz.f63) (by kernel_rfl) rfl rfl rfl _ rfl ?_
  (repeat (first | refine go ?_ | with_reducible intro _))
  refine Wk.ret ⟨_, Rs.cell rfl rfl (by first | exact Or.inl (by assumption) | (refine Or.inr ?_; repeat (first | exact List.Mem.head _ | refine List.Mem.tail _ ?_))) rfl rfl Rs.nil, _, Sub.none _, rfl, rfl, rfl⟩
theorem rSet {Z : Zone} {a n : Int} : Cz M (.func (.func 45) #[] #[]) [.int .i64 a, .int .i64 n] Z [] (fun v' Z' A' => v' = .agg ⟨insC ⟨1, a, 0, 0, 0, n⟩⟩ ∧ Z = Z' ∧ A' = []) := by
  refine Cz.fn (f := Tryz.f45) (by kernel_rfl) rfl rfl rfl _ rfl ?_
  (repeat (first | refine go ?_ | with_reducible intro _))
  refine Wk.call rfl rfl (Spl.none _) (rThree) rfl rfl rfl ?_
  rintro v' Z' A' hz ⟨rfl, rfl, rfl⟩
  (repeat (first | refine go ?_ | with_reducible intro _))
  refine Wk.ret ⟨_, Rs.cell rfl rfl (by first | exact Or.inl (by assumption) | (refine Or.inr ?_; repeat (first | exact List.Mem.head _ | refine List.Mem.tail _ ?_))) rfl rfl Rs.nil, _, Sub.none _, rfl, rfl, rfl⟩
theorem rZero {Z : Zone} {a n : Int} : Cz M (.func (.func 64) #[] #[]) [.int .i64 a, .int .i64 n] Z [] (fun v' Z' A' => v' = .agg ⟨insC ⟨14, a, 0, 0, 0, n⟩⟩ ∧ Z = Z' ∧ A' = []) := by
  refine Cz.fn (f := Tryz.f64) (by kernel_rfl) rfl rfl rfl _ rfl ?_
  (repeat (first | refine go ?_ | with_reducible intro _))
  refine Wk.call rfl rfl (Spl.none _) (rThree) rfl rfl rfl ?_
  rintro v' Z' A' hz ⟨rfl, rfl, rfl⟩
  (repeat (first | refine go ?_ | with_reducible intro _))
  refine Wk.ret ⟨_, Rs.cell rfl rfl (by first | exact Or.inl (by assumption) | (refine Or.inr ?_; repeat (first | exact List.Mem.head _ | refine List.Mem.tail _ ?_))) rfl rfl Rs.nil, _, Sub.none _, rfl, rfl, rfl⟩
theorem rTell {Z : Zone} {a : Int} : Cz M (.func (.func 65) #[] #[]) [.int .i64 a] Z [] (fun v' Z' A' => v' = .agg ⟨insC ⟨15, a, 0, 0, 0, 0⟩⟩ ∧ Z = Z' ∧ A' = []) := by
  refine Cz.fn (f := Tryz.f65) (by kernel_rfl) rfl rfl rfl _ rfl ?_
  (repeat (first | refine go ?_ | with_reducible intro _))
  refine Wk.call rfl rfl (Spl.none _) (rThree) rfl rfl rfl ?_
  rintro v' Z' A' hz ⟨rfl, rfl, rfl⟩
  (repeat (first | refine go ?_ | with_reducible intro _))
  refine Wk.ret ⟨_, Rs.cell rfl rfl (by first | exact Or.inl (by assumption) | (refine Or.inr ?_; repeat (first | exact List.Mem.head _ | refine List.Mem.tail _ ?_))) rfl rfl Rs.nil, _, Sub.none _, rfl, rfl, rfl⟩
theorem rJump {Z : Zone} {n : Int} : Cz M (.func (.func 66) #[] #[]) [.int .i64 n] Z [] (fun v' Z' A' => v' = .agg ⟨insC ⟨13, 0, 0, 0, 0, n⟩⟩ ∧ Z = Z' ∧ A' = []) := by
  refine Cz.fn (f := Tryz.f66) (by kernel_rfl) rfl rfl rfl _ rfl ?_
  (repeat (first | refine go ?_ | with_reducible intro _))
  refine Wk.call rfl rfl (Spl.none _) (rThree) rfl rfl rfl ?_
  rintro v' Z' A' hz ⟨rfl, rfl, rfl⟩
  (repeat (first | refine go ?_ | with_reducible intro _))
  refine Wk.ret ⟨_, Rs.cell rfl rfl (by first | exact Or.inl (by assumption) | (refine Or.inr ?_; repeat (first | exact List.Mem.head _ | refine List.Mem.tail _ ?_))) rfl rfl Rs.nil, _, Sub.none _, rfl, rfl, rfl⟩
theorem rSwap {Z : Zone} {a b c : Int} : Cz M (.func (.func 67) #[] #[]) [.int .i64 a, .int .i64 b, .int .i64 c] Z [] (fun v' Z' A' => v' = .agg ⟨insC ⟨10, a, 0, b, c, 0⟩⟩ ∧ Z = Z' ∧ A' = []) := by
  refine Cz.fn (f := Tryz.f67) (by kernel_rfl) rfl rfl rfl _ rfl ?_
  (repeat (first | refine go ?_ | with_reducible intro _))
  refine Wk.ret ⟨_, Rs.cell rfl rfl (by first | exact Or.inl (by assumption) | (refine Or.inr ?_; repeat (first | exact List.Mem.head _ | refine List.Mem.tail _ ?_))) rfl rfl Rs.nil, _, Sub.none _, rfl, rfl, rfl⟩
theorem rPush {Z : Zone} {at_ n : Int} (ha : 0 ≤ at_ ∧ at_ ≤ 100000) :
    Cz M (.func (.func 22) #[] #[]) [.int .i64 at_, .int .i64 n] Z [] (fun v' Z' A' => Z = Z' ∧ A' = [ol 6 v' (pushI at_ n).length (insL (pushI at_ n))]) := by
  refine Cz.fn (f := Tryz.f22) (by kernel_rfl) rfl rfl rfl _ rfl ?_
  (repeat (first | refine go ?_ | with_reducible intro _))
  refine Wk.call rfl rfl (Spl.none _) (rThree) rfl rfl rfl ?_
  rintro v' Z' A' hz ⟨rfl, rfl, rfl⟩
  (repeat (first | refine go ?_ | with_reducible intro _))
  refine Wk.call rfl rfl (Spl.none _) (rThree) rfl rfl rfl ?_
  rintro v' Z' A' hz ⟨rfl, rfl, rfl⟩
  (repeat (first | refine go ?_ | with_reducible intro _))
  refine Wk.call rfl rfl (Spl.none _) (rThree) rfl rfl rfl ?_
  rintro v' Z' A' hz ⟨rfl, rfl, rfl⟩
  (repeat (first | refine go ?_ | with_reducible intro _))
  refine Wk.call rfl rfl (Spl.none _) (rThree) rfl rfl rfl ?_
  rintro v' Z' A' hz ⟨rfl, rfl, rfl⟩
  (repeat (first | refine go ?_ | with_reducible intro _))
  refine Wk.call rfl rfl (Spl.none _) (rZero) rfl rfl rfl ?_
  rintro v' Z' A' hz ⟨rfl, rfl, rfl⟩
  (repeat (first | refine go ?_ | with_reducible intro _))
  refine Wk.call rfl rfl (Spl.none _) (rThree) rfl rfl rfl ?_
  rintro v' Z' A' hz ⟨rfl, rfl, rfl⟩
  (repeat (first | refine go ?_ | with_reducible intro _))
  refine Wk.call rfl rfl (Spl.none _) (rSet) rfl rfl rfl ?_
  rintro v' Z' A' hz ⟨rfl, rfl, rfl⟩
  (repeat (first | refine go ?_ | with_reducible intro _))
  refine Wk.call rfl rfl (Spl.none _) (rThree) rfl rfl rfl ?_
  rintro v' Z' A' hz ⟨rfl, rfl, rfl⟩
  (repeat (first | refine go ?_ | with_reducible intro _))
  refine Wk.call rfl rfl (Spl.none _) (rThree) rfl rfl rfl ?_
  rintro v' Z' A' hz ⟨rfl, rfl, rfl⟩
  (repeat (first | refine go ?_ | with_reducible intro _))
  refine Wk.call rfl rfl (Spl.none _) (rThree) rfl rfl rfl ?_
  rintro v' Z' A' hz ⟨rfl, rfl, rfl⟩
  (repeat (first | refine go ?_ | with_reducible intro _))
  refine Wk.call rfl rfl (Spl.none _) (rTell) rfl rfl rfl ?_
  rintro v' Z' A' hz ⟨rfl, rfl, rfl⟩
  (repeat (first | refine go ?_ | with_reducible intro _))
  refine Wk.call rfl rfl (Spl.none _) (rJump) rfl rfl rfl ?_
  rintro v' Z' A' hz ⟨rfl, rfl, rfl⟩
  (repeat (first | refine go ?_ | with_reducible intro _))
  refine Wk.call rfl rfl (Spl.none _) (rSet) rfl rfl rfl ?_
  rintro v' Z' A' hz ⟨rfl, rfl, rfl⟩
  (repeat (first | refine go ?_ | with_reducible intro _))
  refine Wk.call rfl rfl (Spl.none _) (rTell) rfl rfl rfl ?_
  rintro v' Z' A' hz ⟨rfl, rfl, rfl⟩
  (repeat (first | refine go ?_ | with_reducible intro _))
  refine Wk.bs (cs := insL (pushI at_ n)) rfl rfl rfl rfl rfl rfl rfl fun b7 => ?_
  (repeat (first | refine go ?_ | with_reducible intro _))
  refine Wk.alter (x := pt b7 _) (C := [ol 6 (.slice (some ⟨b7, 0, none⟩) 14 14) 14 (insL (pushI at_ n))]) (by repeat (first | exact Rem.head | apply Rem.tail)) (fun s h => ol_of_pt (m := 14) (g := 0) rfl (.inl rfl) rfl h) ?_
  refine Wk.ret ⟨_, Rs.tmp rfl Rs.nil, _, Sub.refl _, rfl, rfl⟩
theorem rSteal {Z : Zone} {at_ : Int} (ha : 0 ≤ at_ ∧ at_ ≤ 100000) :
    Cz M (.func (.func 24) #[] #[]) [.int .i64 at_] Z [] (fun v' Z' A' => Z = Z' ∧ A' = [ol 6 v' (stealI at_).length (insL (stealI at_))]) := by
  refine Cz.fn (f := Tryz.f24) (by kernel_rfl) rfl rfl rfl _ rfl ?_
  (repeat (first | refine go ?_ | with_reducible intro _))
  refine Wk.call rfl rfl (Spl.none _) (rThree) rfl rfl rfl ?_
  rintro v' Z' A' hz ⟨rfl, rfl, rfl⟩
  (repeat (first | refine go ?_ | with_reducible intro _))
  refine Wk.call rfl rfl (Spl.none _) (rThree) rfl rfl rfl ?_
  rintro v' Z' A' hz ⟨rfl, rfl, rfl⟩
  (repeat (first | refine go ?_ | with_reducible intro _))
  refine Wk.call rfl rfl (Spl.none _) (rThree) rfl rfl rfl ?_
  rintro v' Z' A' hz ⟨rfl, rfl, rfl⟩
  (repeat (first | refine go ?_ | with_reducible intro _))
  refine Wk.call rfl rfl (Spl.none _) (rZero) rfl rfl rfl ?_
  rintro v' Z' A' hz ⟨rfl, rfl, rfl⟩
  (repeat (first | refine go ?_ | with_reducible intro _))
  refine Wk.call rfl rfl (Spl.none _) (rThree) rfl rfl rfl ?_
  rintro v' Z' A' hz ⟨rfl, rfl, rfl⟩
  (repeat (first | refine go ?_ | with_reducible intro _))
  refine Wk.call rfl rfl (Spl.none _) (rThree) rfl rfl rfl ?_
  rintro v' Z' A' hz ⟨rfl, rfl, rfl⟩
  (repeat (first | refine go ?_ | with_reducible intro _))
  refine Wk.call rfl rfl (Spl.none _) (rThree) rfl rfl rfl ?_
  rintro v' Z' A' hz ⟨rfl, rfl, rfl⟩
  (repeat (first | refine go ?_ | with_reducible intro _))
  refine Wk.call rfl rfl (Spl.none _) (rSwap) rfl rfl rfl ?_
  rintro v' Z' A' hz ⟨rfl, rfl, rfl⟩
  (repeat (first | refine go ?_ | with_reducible intro _))
  refine Wk.call rfl rfl (Spl.none _) (rZero) rfl rfl rfl ?_
  rintro v' Z' A' hz ⟨rfl, rfl, rfl⟩
  (repeat (first | refine go ?_ | with_reducible intro _))
  refine Wk.call rfl rfl (Spl.none _) (rTell) rfl rfl rfl ?_
  rintro v' Z' A' hz ⟨rfl, rfl, rfl⟩
  (repeat (first | refine go ?_ | with_reducible intro _))
  refine Wk.call rfl rfl (Spl.none _) (rJump) rfl rfl rfl ?_
  rintro v' Z' A' hz ⟨rfl, rfl, rfl⟩
  (repeat (first | refine go ?_ | with_reducible intro _))
  refine Wk.call rfl rfl (Spl.none _) (rTell) rfl rfl rfl ?_
  rintro v' Z' A' hz ⟨rfl, rfl, rfl⟩
  (repeat (first | refine go ?_ | with_reducible intro _))
  refine Wk.call rfl rfl (Spl.none _) (rJump) rfl rfl rfl ?_
  rintro v' Z' A' hz ⟨rfl, rfl, rfl⟩
  (repeat (first | refine go ?_ | with_reducible intro _))
  refine Wk.call rfl rfl (Spl.none _) (rSet) rfl rfl rfl ?_
  rintro v' Z' A' hz ⟨rfl, rfl, rfl⟩
  (repeat (first | refine go ?_ | with_reducible intro _))
  refine Wk.call rfl rfl (Spl.none _) (rTell) rfl rfl rfl ?_
  rintro v' Z' A' hz ⟨rfl, rfl, rfl⟩
  (repeat (first | refine go ?_ | with_reducible intro _))
  refine Wk.bs (cs := insL (stealI at_)) rfl rfl rfl rfl rfl rfl rfl fun b7 => ?_
  (repeat (first | refine go ?_ | with_reducible intro _))
  refine Wk.alter (x := pt b7 _) (C := [ol 6 (.slice (some ⟨b7, 0, none⟩) 15 15) 15 (insL (stealI at_))]) (by repeat (first | exact Rem.head | apply Rem.tail)) (fun s h => ol_of_pt (m := 15) (g := 0) rfl (.inl rfl) rfl h) ?_
  refine Wk.ret ⟨_, Rs.tmp rfl Rs.nil, _, Sub.refl _, rfl, rfl⟩
theorem rPop {Z : Zone} {at_ : Int} {fence : Bool} (ha : 0 ≤ at_ ∧ at_ ≤ 100000) :
    Cz M (.func (.func 23) #[] #[]) [.int .i64 at_, .bool fence] Z [] (fun v' Z' A' => Z = Z' ∧ A' = [ol 6 v' (popI at_ fence).length (insL (popI at_ fence))]) := by
  cases fence with
  | true =>
    refine Cz.fn (f := Tryz.f23) (by kernel_rfl) rfl rfl rfl _ rfl ?_
    (repeat (first | refine go ?_ | with_reducible intro _))
    refine Wk.call rfl rfl (Spl.none _) (rThree) rfl rfl rfl ?_
    rintro v' Z' A' hz ⟨rfl, rfl, rfl⟩
    (repeat (first | refine go ?_ | with_reducible intro _))
    refine Wk.call rfl rfl (Spl.none _) (rThree) rfl rfl rfl ?_
    rintro v' Z' A' hz ⟨rfl, rfl, rfl⟩
    (repeat (first | refine go ?_ | with_reducible intro _))
    refine Wk.call rfl rfl (Spl.none _) (rThree) rfl rfl rfl ?_
    rintro v' Z' A' hz ⟨rfl, rfl, rfl⟩
    (repeat (first | refine go ?_ | with_reducible intro _))
    refine Wk.bs (cs := insL popH) rfl rfl rfl rfl rfl rfl rfl fun b10 => ?_
    refine Wk.alterr (x := pt b10 _) (C := [ol 6 (.slice (some ⟨b10, 0, none⟩) 3 3) 3 (insL popH)]) (by repeat (first | exact Rem.head | apply Rem.tail)) (fun s h => ol_of_pt (m := 3) (g := 0) rfl (.inl rfl) rfl h) ?_
    (repeat (first | refine go ?_ | with_reducible intro _))
    refine Wk.bs (cs := insC ⟨11, 0, 0, 0, 0, 0⟩) rfl rfl rfl rfl rfl rfl rfl fun b14 => ?_
    refine Wk.append (kk := 1) (new := insC ⟨11, 0, 0, 0, 0, 0⟩) rfl rfl rfl rfl rfl rfl rfl rfl (by repeat (first | exact Rem.head | apply Rem.tail)) (Src.lit (by first | exact Or.inl (by assumption) | (refine Or.inr ?_; repeat (first | exact List.Mem.head _ | refine List.Mem.tail _ ?_))) rfl) rfl rfl rfl (by omega) (by omega) (by kernel_rfl) rfl rfl fun v15 => ?_
    refine Wk.dropr (B := [_]) (.keep (Sub.none _)) ?_
    first | refine Wk.knowr (by repeat (first | exact Rem.head | apply Rem.tail)) (fun s h => ol.form (v := v15) h) ?_ | refine Wk.know (by repeat (first | exact Rem.head | apply Rem.tail)) (fun s h => ol.form (v := v15) h) ?_
    rintro ⟨a15, c15, rfl⟩
    (repeat (first | refine go ?_ | with_reducible intro _))
    refine Wk.tellr 6 (.int .i64 at_) rfl (congrArg (Value.int .i64) (by omega)) ?_
    refine Wk.call rfl rfl (Spl.none _) (rThree) rfl rfl rfl ?_
    rintro v' Z' A' hz ⟨rfl, rfl, rfl⟩
    (repeat (first | refine go ?_ | with_reducible intro _))
    refine Wk.call rfl rfl (Spl.none _) (rThree) rfl rfl rfl ?_
    rintro v' Z' A' hz ⟨rfl, rfl, rfl⟩
    (repeat (first | refine go ?_ | with_reducible intro _))
    refine Wk.call rfl rfl (Spl.none _) (rZero) rfl rfl rfl ?_
    rintro v' Z' A' hz ⟨rfl, rfl, rfl⟩
    (repeat (first | refine go ?_ | with_reducible intro _))
    refine Wk.call rfl rfl (Spl.none _) (rThree) rfl rfl rfl ?_
    rintro v' Z' A' hz ⟨rfl, rfl, rfl⟩
    (repeat (first | refine go ?_ | with_reducible intro _))
    refine Wk.call rfl rfl (Spl.none _) (rTell) rfl rfl rfl ?_
    rintro v' Z' A' hz ⟨rfl, rfl, rfl⟩
    (repeat (first | refine go ?_ | with_reducible intro _))
    refine Wk.call rfl rfl (Spl.none _) (rJump) rfl rfl rfl ?_
    rintro v' Z' A' hz ⟨rfl, rfl, rfl⟩
    (repeat (first | refine go ?_ | with_reducible intro _))
    refine Wk.call rfl rfl (Spl.none _) (rThree) rfl rfl rfl ?_
    rintro v' Z' A' hz ⟨rfl, rfl, rfl⟩
    (repeat (first | refine go ?_ | with_reducible intro _))
    refine Wk.call rfl rfl (Spl.none _) (rThree) rfl rfl rfl ?_
    rintro v' Z' A' hz ⟨rfl, rfl, rfl⟩
    (repeat (first | refine go ?_ | with_reducible intro _))
    refine Wk.call rfl rfl (Spl.none _) (rThree) rfl rfl rfl ?_
    rintro v' Z' A' hz ⟨rfl, rfl, rfl⟩
    (repeat (first | refine go ?_ | with_reducible intro _))
    refine Wk.call rfl rfl (Spl.none _) (rZero) rfl rfl rfl ?_
    rintro v' Z' A' hz ⟨rfl, rfl, rfl⟩
    (repeat (first | refine go ?_ | with_reducible intro _))
    refine Wk.call rfl rfl (Spl.none _) (rThree) rfl rfl rfl ?_
    rintro v' Z' A' hz ⟨rfl, rfl, rfl⟩
    (repeat (first | refine go ?_ | with_reducible intro _))
    refine Wk.call rfl rfl (Spl.none _) (rSwap) rfl rfl rfl ?_
    rintro v' Z' A' hz ⟨rfl, rfl, rfl⟩
    (repeat (first | refine go ?_ | with_reducible intro _))
    refine Wk.call rfl rfl (Spl.none _) (rThree) rfl rfl rfl ?_
    rintro v' Z' A' hz ⟨rfl, rfl, rfl⟩
    (repeat (first | refine go ?_ | with_reducible intro _))
    refine Wk.call rfl rfl (Spl.none _) (rZero) rfl rfl rfl ?_
    rintro v' Z' A' hz ⟨rfl, rfl, rfl⟩
    (repeat (first | refine go ?_ | with_reducible intro _))
    refine Wk.call rfl rfl (Spl.none _) (rTell) rfl rfl rfl ?_
    rintro v' Z' A' hz ⟨rfl, rfl, rfl⟩
    (repeat (first | refine go ?_ | with_reducible intro _))
    refine Wk.call rfl rfl (Spl.none _) (rJump) rfl rfl rfl ?_
    rintro v' Z' A' hz ⟨rfl, rfl, rfl⟩
    (repeat (first | refine go ?_ | with_reducible intro _))
    refine Wk.call rfl rfl (Spl.none _) (rTell) rfl rfl rfl ?_
    rintro v' Z' A' hz ⟨rfl, rfl, rfl⟩
    (repeat (first | refine go ?_ | with_reducible intro _))
    refine Wk.bs (cs := insL (popT (at_))) rfl rfl rfl rfl rfl rfl rfl fun b49 => ?_
    refine Wk.append (kk := 17) (new := insL (popT (at_))) rfl rfl rfl rfl rfl rfl rfl rfl (by repeat (first | exact Rem.head | apply Rem.tail)) (Src.lit (by first | exact Or.inl (by assumption) | (refine Or.inr ?_; repeat (first | exact List.Mem.head _ | refine List.Mem.tail _ ?_))) rfl) rfl rfl rfl (by omega) (by omega) (by kernel_rfl) rfl rfl fun v50 => ?_
    refine Wk.dropr (B := [_]) (.keep (Sub.none _)) ?_
    (repeat (first | refine go ?_ | with_reducible intro _))
    refine Wk.ret ⟨_, Rs.tmp rfl Rs.nil, _, Sub.refl _, rfl, rfl⟩
  | false =>
    refine Cz.fn (f := Tryz.f23) (by kernel_rfl) rfl rfl rfl _ rfl ?_
    (repeat (first | refine go ?_ | with_reducible intro _))
    refine Wk.call rfl rfl (Spl.none _) (rThree) rfl rfl rfl ?_
    rintro v' Z' A' hz ⟨rfl, rfl, rfl⟩
    (repeat (first | refine go ?_ | with_reducible intro _))
    refine Wk.call rfl rfl (Spl.none _) (rThree) rfl rfl rfl ?_
    rintro v' Z' A' hz ⟨rfl, rfl, rfl⟩
    (repeat (first | refine go ?_ | with_reducible intro _))
    refine Wk.call rfl rfl (Spl.none _) (rThree) rfl rfl rfl ?_
    rintro v' Z' A' hz ⟨rfl, rfl, rfl⟩
    (repeat (first | refine go ?_ | with_reducible intro _))
    refine Wk.bs (cs := insL popH) rfl rfl rfl rfl rfl rfl rfl fun b10 => ?_
    refine Wk.alterr (x := pt b10 _) (C := [ol 6 (.slice (some ⟨b10, 0, none⟩) 3 3) 3 (insL popH)]) (by repeat (first | exact Rem.head | apply Rem.tail)) (fun s h => ol_of_pt (m := 3) (g := 0) rfl (.inl rfl) rfl h) ?_
    (repeat (first | refine go ?_ | with_reducible intro _))
    refine Wk.tellr 6 (.int .i64 (at_ - 1)) rfl (congrArg (Value.int .i64) (by omega)) ?_
    refine Wk.call rfl rfl (Spl.none _) (rThree) rfl rfl rfl ?_
    rintro v' Z' A' hz ⟨rfl, rfl, rfl⟩
    (repeat (first | refine go ?_ | with_reducible intro _))
    refine Wk.call rfl rfl (Spl.none _) (rThree) rfl rfl rfl ?_
    rintro v' Z' A' hz ⟨rfl, rfl, rfl⟩
    (repeat (first | refine go ?_ | with_reducible intro _))
    refine Wk.call rfl rfl (Spl.none _) (rZero) rfl rfl rfl ?_
    rintro v' Z' A' hz ⟨rfl, rfl, rfl⟩
    (repeat (first | refine go ?_ | with_reducible intro _))
    refine Wk.call rfl rfl (Spl.none _) (rThree) rfl rfl rfl ?_
    rintro v' Z' A' hz ⟨rfl, rfl, rfl⟩
    (repeat (first | refine go ?_ | with_reducible intro _))
    refine Wk.call rfl rfl (Spl.none _) (rTell) rfl rfl rfl ?_
    rintro v' Z' A' hz ⟨rfl, rfl, rfl⟩
    (repeat (first | refine go ?_ | with_reducible intro _))
    refine Wk.call rfl rfl (Spl.none _) (rJump) rfl rfl rfl ?_
    rintro v' Z' A' hz ⟨rfl, rfl, rfl⟩
    (repeat (first | refine go ?_ | with_reducible intro _))
    refine Wk.call rfl rfl (Spl.none _) (rThree) rfl rfl rfl ?_
    rintro v' Z' A' hz ⟨rfl, rfl, rfl⟩
    (repeat (first | refine go ?_ | with_reducible intro _))
    refine Wk.call rfl rfl (Spl.none _) (rThree) rfl rfl rfl ?_
    rintro v' Z' A' hz ⟨rfl, rfl, rfl⟩
    (repeat (first | refine go ?_ | with_reducible intro _))
    refine Wk.call rfl rfl (Spl.none _) (rThree) rfl rfl rfl ?_
    rintro v' Z' A' hz ⟨rfl, rfl, rfl⟩
    (repeat (first | refine go ?_ | with_reducible intro _))
    refine Wk.call rfl rfl (Spl.none _) (rZero) rfl rfl rfl ?_
    rintro v' Z' A' hz ⟨rfl, rfl, rfl⟩
    (repeat (first | refine go ?_ | with_reducible intro _))
    refine Wk.call rfl rfl (Spl.none _) (rThree) rfl rfl rfl ?_
    rintro v' Z' A' hz ⟨rfl, rfl, rfl⟩
    (repeat (first | refine go ?_ | with_reducible intro _))
    refine Wk.call rfl rfl (Spl.none _) (rSwap) rfl rfl rfl ?_
    rintro v' Z' A' hz ⟨rfl, rfl, rfl⟩
    (repeat (first | refine go ?_ | with_reducible intro _))
    refine Wk.call rfl rfl (Spl.none _) (rThree) rfl rfl rfl ?_
    rintro v' Z' A' hz ⟨rfl, rfl, rfl⟩
    (repeat (first | refine go ?_ | with_reducible intro _))
    refine Wk.call rfl rfl (Spl.none _) (rZero) rfl rfl rfl ?_
    rintro v' Z' A' hz ⟨rfl, rfl, rfl⟩
    (repeat (first | refine go ?_ | with_reducible intro _))
    refine Wk.call rfl rfl (Spl.none _) (rTell) rfl rfl rfl ?_
    rintro v' Z' A' hz ⟨rfl, rfl, rfl⟩
    (repeat (first | refine go ?_ | with_reducible intro _))
    refine Wk.call rfl rfl (Spl.none _) (rJump) rfl rfl rfl ?_
    rintro v' Z' A' hz ⟨rfl, rfl, rfl⟩
    (repeat (first | refine go ?_ | with_reducible intro _))
    refine Wk.call rfl rfl (Spl.none _) (rTell) rfl rfl rfl ?_
    rintro v' Z' A' hz ⟨rfl, rfl, rfl⟩
    (repeat (first | refine go ?_ | with_reducible intro _))
    refine Wk.bs (cs := insL (popT (at_ - 1))) rfl rfl rfl rfl rfl rfl rfl fun b49 => ?_
    refine Wk.append (kk := 17) (new := insL (popT (at_ - 1))) rfl rfl rfl rfl rfl rfl rfl rfl (by repeat (first | exact Rem.head | apply Rem.tail)) (Src.lit (by first | exact Or.inl (by assumption) | (refine Or.inr ?_; repeat (first | exact List.Mem.head _ | refine List.Mem.tail _ ?_))) rfl) rfl rfl rfl (by omega) (by omega) (by kernel_rfl) rfl rfl fun v50 => ?_
    refine Wk.dropr (B := [_]) (.keep (Sub.none _)) ?_
    (repeat (first | refine go ?_ | with_reducible intro _))
    refine Wk.ret ⟨_, Rs.tmp rfl Rs.nil, _, Sub.refl _, rfl, rfl⟩
end Go.Proofs.J
/- The program of a deque, by the reference. -/
namespace Go.Proofs.J
open Go.Ev Go
set_option linter.unusedVariables false
set_option maxHeartbeats 4000000
set_option maxRecDepth 100000
theorem rProgram {Z : Zone} {cs : List Value} {d : Dq} (h : DqR Z cs d) (ok : d.Ok) :
    Cz M (.func (.func 14) #[] #[]) [.agg ⟨cs⟩] Z [] (fun v' Z' A' => (∃ cs', v' = .agg ⟨cs'⟩ ∧ WkR Z' cs' (List.replicate (2 + d.size.toNat) 0) (progI d) d.room) ∧ A' = []) := by
  obtain ⟨a, b, c, e, rfl, so, st⟩ := h.form
  have hsz := ok.rng.1
  have ho := ok.lim.1
  have ht := ok.lim.2.1
  have htm := ok.lim.2.2
  refine Cz.fn (f := Tryz.f14) (by kernel_rfl) rfl rfl rfl _ rfl ?_
  (repeat (first | refine go ?_ | with_reducible intro _))
  rename_i b1 b2
  refine Wk.freeze (Rem.tail Rem.head) fun Z1 e1 h1 => ?_
  have so1 := so.mono e1
  have st1 := st.mono e1
  refine Wk.drawr (ms := [0, 1, 3, 7, 0, 16, 63, 0, 255]) (l := [0, 1, 2, 3, 4, 5, 6, 7, 8]) (by kernel_rfl) (by kernel_rfl) (by kernel_rfl) rfl ?_
  (repeat (first | refine go ?_ | with_reducible intro _))
  refine Wk.mks (2 + d.size.toNat) (2 + d.size.toNat) rfl rfl rfl rfl rfl rfl (by omega) (by omega) (Nat.le_refl _) (by show 8 * (2 + d.size.toNat) ≤ _; omega) (by omega) fun b9 => ?_
  (repeat (first | refine go ?_ | with_reducible intro _))
  rename_i b3
  refine Wk.store rfl rfl rfl rfl rfl (by repeat (first | exact Upd.head | apply Upd.tail)) rfl (by kernel_rfl) rfl ?_
  refine Wk.freezer (Rem.tail Rem.head) fun Z2 e2 h9 => ?_
  have sw := zeros_sl h9
  have h2 := e2 _ _ h1
  have so2 := so1.mono e2
  have st2 := st1.mono e2
  (repeat (first | refine go ?_ | with_reducible intro _))
  refine Wk.call rfl rfl (Spl.none _) (rSet) rfl rfl rfl ?_
  rintro v' Z' A' hz ⟨rfl, rfl, rfl⟩
  (repeat (first | refine go ?_ | with_reducible intro _))
  refine Wk.call rfl rfl (Spl.none _) (rSet) rfl rfl rfl ?_
  rintro v' Z' A' hz ⟨rfl, rfl, rfl⟩
  (repeat (first | refine go ?_ | with_reducible intro _))
  refine Wk.bs (cs := insL [⟨1, 8, 0, 0, 0, d.size⟩, ⟨1, 9, 0, 0, 0, 1⟩]) rfl rfl rfl rfl rfl rfl rfl fun b20 => ?_
  refine Wk.alterr (x := pt b20 _) (C := [ol 6 (.slice (some ⟨b20, 0, none⟩) 2 2) 2 (insL [⟨1, 8, 0, 0, 0, d.size⟩, ⟨1, 9, 0, 0, 0, 1⟩])]) (by repeat (first | exact Rem.head | apply Rem.tail)) (fun s h => ol_of_pt (m := 2) (g := 0) rfl (.inl rfl) rfl h) ?_
  (repeat (first | refine go ?_ | with_reducible intro _))
  refine Wk.loop (fun mm L Z' A' => ∃ (j : Nat) (v : Value), j ≤ d.owner.length ∧ mm = d.owner.length - j ∧ Z2 = Z' ∧ A' = [ol 6 v (thrI d.size (actI d.fence d.owner) j).length (insL (thrI d.size (actI d.fence d.owner) j)), pt b3 (.cells [.slice (some ⟨b9, 0, none⟩) (2 + d.size.toNat) (2 + d.size.toNat), .slice none 0 0, .int .i64 d.room] true 0), pt b2 (.cells [.slice none 0 0, .slice none 0 0, .int .i64 0] true 0)] ∧ Kp L [(1, .pointer (some ⟨b1, 0, none⟩)), (2, .pointer (some ⟨b2, 0, none⟩)), (3, .pointer (some ⟨b3, 0, none⟩)), (4, v), (5, .int .i64 j)]) d.owner.length ⟨0, .slice (some ⟨b20, 0, none⟩) 2 2, Nat.zero_le _, rfl, rfl, rfl, (by repeat (first | exact trivial | refine And.intro rfl ?_ | refine And.intro (kpI rfl (by omega)) ?_))⟩ ?_
  rintro mm L Z' A' - ⟨j, v, hj, rfl, rfl, rfl, hk⟩
  refine Wk.kp hk ?_
  clear hk
  refine Wk.know (by repeat (first | exact Rem.head | apply Rem.tail)) (fun s h => ol.form (v := v) h) ?_
  rintro ⟨av, cv, rfl⟩
  have hlen := thrI_len (size := d.size) (f := actI d.fence d.owner) (k := 21) (fun a i => actI_len a i) j
  (repeat (first | refine go ?_ | with_reducible intro _))
  refine Wk.cond rfl (fun hc => ?_) (fun hc => ?_)
  · have hlt : j < d.owner.length := by simp at hc; omega
    clear hc
    have e2' := actL_get hlt
    have hst : thrI d.size (actI d.fence d.owner) (j + 1) = thrI d.size (actI d.fence d.owner) j ++ actI d.fence d.owner (thrI d.size (actI d.fence d.owner) j).length j := rfl
    have hal := actI_len (fence := d.fence) (l := d.owner) (thrI d.size (actI d.fence d.owner) j).length j
    rw [actI_get hlt] at hst hal
    (repeat (first | refine go ?_ | with_reducible intro _))
    refine Wk.cond rfl (fun hp => ?_) (fun hp => ?_)
    · rw [if_pos hp] at hst hal
      (repeat (first | refine go ?_ | with_reducible intro _))
      refine Wk.loadP (o := 1) rfl rfl (by assumption) rfl rfl rfl rfl ?_
      (repeat (first | refine go ?_ | with_reducible intro _))
      refine Wk.call rfl rfl (Spl.none _) (rPush (at_ := (thrI d.size (actI d.fence d.owner) j).length) (by omega)) rfl rfl rfl ?_
      rintro v43 Z' A' hz ⟨rfl, rfl⟩
      (repeat (first | refine go ?_ | with_reducible intro _))
      refine Wk.append rfl rfl rfl rfl rfl rfl rfl rfl (.tail .head) (Src.ol (by repeat (first | exact Rem.head | apply Rem.tail))) rfl (insL_ok _) (by rw [insL_len]) (by omega) (by omega) rfl rfl rfl fun v44 => ?_
      refine Wk.dropr (B := [_, _, _]) (.keep (.drop (Sub.refl _))) ?_
      (repeat (first | refine go ?_ | with_reducible intro _))
      refine Wk.inv ⟨_, by omega, j + 1, v44, hlt, rfl, rfl, ?_, (by repeat (first | exact trivial | refine And.intro rfl ?_ | refine And.intro (kpI rfl (by omega)) ?_))⟩
      rw [hst, insL_append, List.length_append]
    · rw [if_neg (by simp [hp])] at hst hal
      (repeat (first | refine go ?_ | with_reducible intro _))
      refine Wk.call rfl rfl (Spl.none _) (rPop (at_ := (thrI d.size (actI d.fence d.owner) j).length) (by omega)) rfl rfl rfl ?_
      rintro v43 Z' A' hz ⟨rfl, rfl⟩
      (repeat (first | refine go ?_ | with_reducible intro _))
      refine Wk.append rfl rfl rfl rfl rfl rfl rfl rfl (.tail .head) (Src.ol (by repeat (first | exact Rem.head | apply Rem.tail))) rfl (insL_ok _) (by rw [insL_len]) (by omega) (by omega) rfl rfl rfl fun v44 => ?_
      refine Wk.dropr (B := [_, _, _]) (.keep (.drop (Sub.refl _))) ?_
      (repeat (first | refine go ?_ | with_reducible intro _))
      refine Wk.inv ⟨_, by omega, j + 1, v44, hlt, rfl, rfl, ?_, (by repeat (first | exact trivial | refine And.intro rfl ?_ | refine And.intro (kpI rfl (by omega)) ?_))⟩
      rw [hst, insL_append, List.length_append]
  have hjn : j = d.owner.length := by simp at hc; omega
  subst hjn
  clear hc hlen
  rw [show thrI d.size (actI d.fence d.owner) d.owner.length = ownI d from rfl]
  first | apply Wk.olFreezer (v := .slice av (ownI d).length cv) | apply Wk.olFreeze (v := .slice av (ownI d).length cv)
  case p => repeat (first | exact Rem.head | apply Rem.tail)
  intro Z4 e4 s20
  have st4 := st2.mono e4
  have h4 := e4 _ _ h2
  have sw4 := sw.mono e4
  (repeat (first | refine go ?_ | with_reducible intro _))
  refine Wk.bs (cs := [.slice av _ cv]) rfl rfl rfl rfl rfl rfl rfl fun b55 => ?_
  refine Wk.olNilr 1 ?_
  refine Wk.append (kk := 1) (new := [.slice av _ cv]) rfl rfl rfl rfl rfl rfl rfl rfl (by repeat (first | exact Rem.head | apply Rem.tail)) (Src.lit (by first | exact Or.inl (by assumption) | (refine Or.inr ?_; repeat (first | exact List.Mem.head _ | refine List.Mem.tail _ ?_))) rfl) rfl rfl rfl (by omega) (by omega) (by kernel_rfl) rfl rfl fun v22 => ?_
  refine Wk.dropr (.keep (.drop (Sub.refl _))) ?_
  first | refine Wk.knowr (by repeat (first | exact Rem.head | apply Rem.tail)) (fun s h => ol.form (v := v22) h) ?_ | refine Wk.know (by repeat (first | exact Rem.head | apply Rem.tail)) (fun s h => ol.form (v := v22) h) ?_
  rintro ⟨a22, c22, rfl⟩
  (repeat (first | refine go ?_ | with_reducible intro _))
  refine Wk.loop (fun mm L Z' A' => ∃ (j : Nat) (v : Value) (us : List Value), j ≤ d.thieves.length ∧ mm = d.thieves.length - j ∧ Ext Z4 Z' ∧ A' = [ol 1 v (j + 1) us, pt b3 (.cells [.slice (some ⟨b9, 0, none⟩) (2 + d.size.toNat) (2 + d.size.toNat), v, .int .i64 d.room] true 0), pt b2 (.cells [.slice none 0 0, .slice none 0 0, .int .i64 0] true 0)] ∧ All2 (fun u t => Sl Z' 6 u t.length (insL t)) us (ownI d :: (d.thieves.take j).map (thiefI d)) ∧ Kp L [(1, .pointer (some ⟨b1, 0, none⟩)), (2, .pointer (some ⟨b2, 0, none⟩)), (3, .pointer (some ⟨b3, 0, none⟩)), (6, .int .i64 j)]) d.thieves.length ⟨0, .slice a22 (0 + 1) c22, _, Nat.zero_le _, rfl, Ext.refl _, rfl, .cons s20 .nil, (by repeat (first | exact trivial | refine And.intro rfl ?_ | refine And.intro (kpI rfl (by omega)) ?_))⟩ ?_
  rintro mm L Z5 A' - ⟨j, v, us, hj, rfl, hz5, rfl, hus, hk⟩
  refine Wk.kp hk ?_
  clear hk
  refine Wk.know (by repeat (first | exact Rem.head | apply Rem.tail)) (fun s h => ol.form (v := v) h) ?_
  rintro ⟨aT, cT, rfl⟩
  have st5 := st4.mono hz5
  have h5 := hz5 _ _ h4
  (repeat (first | refine go ?_ | with_reducible intro _))
  refine Wk.cond rfl (fun hc => ?_) (fun hc => ?_)
  · have hlt : j < d.thieves.length := by simp at hc; omega
    clear hc
    have hm4 := htm _ (List.getElem_mem hlt)
    (repeat (first | refine go ?_ | with_reducible intro _))
    refine Wk.call rfl rfl (Spl.none _) (rSet) rfl rfl rfl ?_
    rintro v' Z' A' hz ⟨rfl, rfl, rfl⟩
    (repeat (first | refine go ?_ | with_reducible intro _))
    refine Wk.call rfl rfl (Spl.none _) (rSet) rfl rfl rfl ?_
    rintro v' Z' A' hz ⟨rfl, rfl, rfl⟩
    (repeat (first | refine go ?_ | with_reducible intro _))
    refine Wk.bs (cs := insL [⟨1, 8, 0, 0, 0, d.size⟩, ⟨1, 9, 0, 0, 0, 1⟩]) rfl rfl rfl rfl rfl rfl rfl fun b69 => ?_
    refine Wk.alterr (x := pt b69 _) (C := [ol 6 (.slice (some ⟨b69, 0, none⟩) 2 2) 2 (insL [⟨1, 8, 0, 0, 0, d.size⟩, ⟨1, 9, 0, 0, 0, 1⟩])]) (by repeat (first | exact Rem.head | apply Rem.tail)) (fun s h => ol_of_pt (m := 2) (g := 0) rfl (.inl rfl) rfl h) ?_
    (repeat (first | refine go ?_ | with_reducible intro _))
    refine Wk.loop (fun mm L Z' A' => ∃ (k : Nat) (w : Value), k ≤ d.thieves[j].toNat ∧ mm = d.thieves[j].toNat - k ∧ Z5 = Z' ∧ A' = [ol 6 w (thrI d.size (fun a _ => stealI a) k).length (insL (thrI d.size (fun a _ => stealI a) k)), ol 1 (.slice aT (j + 1) cT) (j + 1) us, pt b3 (.cells [.slice (some ⟨b9, 0, none⟩) (2 + d.size.toNat) (2 + d.size.toNat), .slice aT (j + 1) cT, .int .i64 d.room] true 0), pt b2 (.cells [.slice none 0 0, .slice none 0 0, .int .i64 0] true 0)] ∧ Kp L [(1, .pointer (some ⟨b1, 0, none⟩)), (2, .pointer (some ⟨b2, 0, none⟩)), (3, .pointer (some ⟨b3, 0, none⟩)), (6, .int .i64 j), (7, w), (8, .int .i64 k)]) d.thieves[j].toNat ⟨0, .slice (some ⟨b69, 0, none⟩) 2 2, Nat.zero_le _, rfl, rfl, rfl, (by repeat (first | exact trivial | refine And.intro rfl ?_ | refine And.intro (kpI rfl (by omega)) ?_))⟩ ?_
    rintro mm L Z' A' - ⟨k, w, hk1, rfl, rfl, rfl, hk⟩
    refine Wk.kp hk ?_
    clear hk
    refine Wk.know (by repeat (first | exact Rem.head | apply Rem.tail)) (fun s h => ol.form (v := w) h) ?_
    rintro ⟨aw, cw, rfl⟩
    have hlen := thrI_len (size := d.size) (f := fun a _ => stealI a) (k := 15) (fun a i => Nat.le_of_eq (stealI_len a)) k
    (repeat (first | refine go ?_ | with_reducible intro _))
    refine Wk.cond rfl (fun hc => ?_) (fun hc => ?_)
    · have hkt : k < d.thieves[j].toNat := by simp at hc; omega
      clear hc
      (repeat (first | refine go ?_ | with_reducible intro _))
      refine Wk.call rfl rfl (Spl.none _) (rSteal (at_ := (thrI d.size (fun a _ => stealI a) k).length) (by omega)) rfl rfl rfl ?_
      rintro v43 Z' A' hz ⟨rfl, rfl⟩
      (repeat (first | refine go ?_ | with_reducible intro _))
      refine Wk.append rfl rfl rfl rfl rfl rfl rfl rfl (.tail .head) (Src.ol (by repeat (first | exact Rem.head | apply Rem.tail))) rfl (insL_ok _) (by rw [insL_len]) (by rw [stealI_len]; omega) (by rw [stealI_len]; omega) rfl rfl rfl fun v44 => ?_
      refine Wk.dropr (B := [_, _, _, _]) (.keep (.drop (Sub.refl _))) ?_
      (repeat (first | refine go ?_ | with_reducible intro _))
      refine Wk.inv ⟨_, by omega, k + 1, v44, hkt, rfl, rfl, ?_, (by repeat (first | exact trivial | refine And.intro rfl ?_ | refine And.intro (kpI rfl (by omega)) ?_))⟩
      rw [thrI, insL_append, List.length_append]
    have hkn : k = d.thieves[j].toNat := by simp at hc; omega
    subst hkn
    clear hc hlen
    rw [show thrI d.size (fun a _ => stealI a) d.thieves[j].toNat = thiefI d d.thieves[j] from rfl]
    first | apply Wk.olFreezer (v := .slice aw (thiefI d d.thieves[j]).length cw) | apply Wk.olFreeze (v := .slice aw (thiefI d d.thieves[j]).length cw)
    case p => repeat (first | exact Rem.head | apply Rem.tail)
    intro Z7 e7 s35
    have st7 := st5.mono e7
    have h7 := e7 _ _ h5
    (repeat (first | refine go ?_ | with_reducible intro _))
    refine Wk.bs (cs := [.slice aw _ cw]) rfl rfl rfl rfl rfl rfl rfl fun b36 => ?_
    refine Wk.append (kk := 1) (new := [.slice aw _ cw]) rfl rfl rfl rfl rfl rfl rfl rfl (by repeat (first | exact Rem.head | apply Rem.tail)) (Src.lit (by first | exact Or.inl (by assumption) | (refine Or.inr ?_; repeat (first | exact List.Mem.head _ | refine List.Mem.tail _ ?_))) rfl) rfl rfl rfl (by omega) (by omega) (by kernel_rfl) rfl rfl fun v37 => ?_
    refine Wk.dropr (.keep (.drop (Sub.refl _))) ?_
    first | refine Wk.knowr (by repeat (first | exact Rem.head | apply Rem.tail)) (fun s h => ol.form (v := v37) h) ?_ | refine Wk.know (by repeat (first | exact Rem.head | apply Rem.tail)) (fun s h => ol.form (v := v37) h) ?_
    rintro ⟨a37, c37, rfl⟩
    (repeat (first | refine go ?_ | with_reducible intro _))
    refine Wk.inv ⟨_, by omega, j + 1, _, _, hlt, rfl, hz5.trans e7, rfl, ?_, (by repeat (first | exact trivial | refine And.intro rfl ?_ | refine And.intro (kpI rfl (by omega)) ?_))⟩
    rw [List.take_succ_eq_append_getElem hlt, List.map_append]
    exact (hus.mono fun _ _ q => q.mono e7).snoc s35
  · have hjn : j = d.thieves.length := by simp at hc; omega
    subst hjn
    rw [List.take_length] at hus
    first | apply Wk.olFreezer (v := .slice aT (d.thieves.length + 1) cT) | apply Wk.olFreeze (v := .slice aT (d.thieves.length + 1) cT)
    case p => repeat (first | exact Rem.head | apply Rem.tail)
    intro Z6 e6 sT
    (repeat (first | refine go ?_ | with_reducible intro _))
    refine Wk.ret ⟨_, Rs.cell rfl rfl (by first | exact Or.inl (by assumption) | (refine Or.inr ?_; repeat (first | exact List.Mem.head _ | refine List.Mem.tail _ ?_))) rfl rfl Rs.nil, _, Sub.none _, ⟨_, rfl, _, _, rfl, by simpa using sw4.mono (hz5.trans e6), us, by simpa [progI] using sT, hus.mono fun _ _ q => q.mono e6⟩, rfl⟩
end Go.Proofs.J
/- Programs that are the same. -/
namespace Go.Proofs.J
open Go.Ev Go
set_option linter.unusedVariables false
set_option maxHeartbeats 4000000
set_option maxRecDepth 100000
theorem aeq_int {T : Tab} {d : Nat} {t : TypeId} {k k' : IntKind} {i : TI} {a : Int} (h : T t = some i) (hd : i.d = .int k') : aequal T (d + 1) t (.int k a) (.int k a) = some true := by
  simp [aequal, h, hd]
theorem eqFields_int {T : Tab} {d : Nat} {xs ys : Array Value} {f : Field} {r : List Field} {j : TI} {k k' : IntKind} {a : Int} (hn : f.name ≠ "_") (ht : T f.type = some j) (hd : j.d = .int k') (ha : apart j xs f.offset = some (.int k a)) (hb : apart j ys f.offset = some (.int k a)) :
    eqFields T (aequal T (d + 1)) xs ys (f :: r) = eqFields T (aequal T (d + 1)) xs ys r := by
  simp [eqFields, hn, ht, ha, hb, aeq_int ht hd]
theorem aeq_struct {T : Tab} {d : Nat} {t : TypeId} {i : TI} {fs : Array Field} {xs ys : Array Value} (h : T t = some i) (hd : i.d = .struct fs) (hc : i.cmp = true) : aequal T (d + 1) t (.agg xs) (.agg ys) = eqFields T (aequal T d) xs ys fs.toList := by
  simp [aequal, h, hd, hc]
theorem ins_eq (i : Ins) : aequal M.T 8 81 (.agg ⟨insC i⟩) (.agg ⟨insC i⟩) = some true := by
  refine (aeq_struct (d := 7) rfl rfl rfl).trans ?_
  refine (eqFields_int (d := 6) (by decide) rfl rfl rfl rfl).trans ?_
  refine (eqFields_int (d := 6) (by decide) rfl rfl rfl rfl).trans ?_
  refine (eqFields_int (d := 6) (by decide) rfl rfl rfl rfl).trans ?_
  refine (eqFields_int (d := 6) (by decide) rfl rfl rfl rfl).trans ?_
  refine (eqFields_int (d := 6) (by decide) rfl rfl rfl rfl).trans ?_
  refine (eqFields_int (d := 6) (by decide) rfl rfl rfl rfl).trans ?_
  rfl
theorem ins_neq (i : Ins) {x y : Operand} : abin M.T .neq 81 x y (.agg ⟨insC i⟩) (.agg ⟨insC i⟩) = some (.bool false) := by
  show (if eqFree M.T 81 x y (.agg ⟨insC i⟩) (.agg ⟨insC i⟩) = true then (aequal M.T 8 81 (.agg ⟨insC i⟩) (.agg ⟨insC i⟩)).map (fun r => Value.bool !r) else none) = _
  rw [if_pos (by rfl), ins_eq]
  rfl
theorem compareSame {Z : Zone} {v w : Value} {l : List Int} (s : Sl Z 1 v l.length (nums l)) (t : Sl Z 1 w l.length (nums l)) (hl : l.length ≤ 1000000) :
    Cz M (.func (.func 95) #[] #[]) [v, w] Z [] (fun v' Z' A' => v' = .int .i64 0 ∧ Z = Z' ∧ A' = []) := by
  obtain ⟨q, c, rfl⟩ := s.form
  obtain ⟨r, e, rfl⟩ := t.form
  refine Cz.fn (f := Tryz.f95) (by kernel_rfl) rfl rfl rfl _ rfl ?_
  (repeat (first | refine go ?_ | with_reducible intro _))
  refine Wk.loop (fun mm L Z' A' => ∃ j : Nat, j ≤ l.length ∧ mm = l.length - j ∧ Z = Z' ∧ Sub A' [] ∧ (True) ∧ Kp L [(0, .slice q l.length c), (1, .slice r l.length e), (5, .int .i64 j)]) (l.length) ⟨0, Nat.zero_le _, rfl, rfl, (by repeat (first | exact Sub.none _ | exact Sub.refl _ | refine Sub.keep ?_ | refine Sub.drop ?_)), trivial, (by repeat (first | exact trivial | refine And.intro rfl ?_ | refine And.intro (kpI rfl (by omega)) ?_))⟩ ?_
  rintro mm L Z' A' - ⟨j, hjj, rfl, rfl, hsub, invj, hk⟩
  refine Wk.drop hsub ?_
  refine Wk.kp hk ?_
  clear hk hsub
  (repeat (first | refine go ?_ | with_reducible intro _))
  refine Wk.caser 10 rfl (fun hc => ?_) (fun hc => ?_)
  · have hlt : j < l.length := by simp at hc; omega
    clear hc
    (repeat (first | refine go ?_ | with_reducible intro _))
    refine Wk.cond rfl (fun hc => ?_) (fun hc => ?_)
    rotate_left
    · exfalso; simp at hc; omega
    (repeat (first | refine go ?_ | with_reducible intro _))
    refine Wk.drawr (ms := [0, 0, 3, 7, 0, 0, 48, 112, 255]) (l := [0, 1, 2, 3, 4, 5, 6, 7, 8]) (by kernel_rfl) (by kernel_rfl) (by kernel_rfl) rfl ?_
    (repeat (first | refine go ?_ | with_reducible intro _))
    refine Wk.cond rfl (fun hc => ?_) (fun hc => ?_)
    · exfalso; simp at hc
    (repeat (first | refine go ?_ | with_reducible intro _))
    refine Wk.drawr (ms := [0, 0, 3, 7, 0, 0, 48, 112, 255]) (l := [0, 1, 2, 3, 4, 5, 6, 7, 8]) (by kernel_rfl) (by kernel_rfl) (by kernel_rfl) rfl ?_
    (repeat (first | refine go ?_ | with_reducible intro _))
    refine Wk.cond rfl (fun hc => ?_) (fun hc => ?_)
    · exfalso; simp at hc
    (repeat (first | refine go ?_ | with_reducible intro _))
    refine Wk.inv ⟨_, by omega, j + 1, by omega, rfl, rfl, (by repeat (first | exact Sub.none _ | exact Sub.refl _ | refine Sub.keep ?_ | refine Sub.drop ?_)), (trivial), (by repeat (first | exact trivial | refine And.intro rfl ?_ | refine And.intro (kpI rfl (by omega)) ?_))⟩
  · (repeat (first | refine go ?_ | with_reducible intro _))
    refine Wk.ret ⟨_, Rs.tmp rfl Rs.nil, _, Sub.none _, congrArg (Value.int .i64) (by omega), rfl, rfl⟩
theorem intsSame {Z : Zone} {v w : Value} {l : List Int} (s : Sl Z 1 v l.length (nums l)) (t : Sl Z 1 w l.length (nums l)) (hl : l.length ≤ 1000000) :
    Cz M (.func (.func 46) #[] #[]) [v, w] Z [] (fun v' Z' A' => v' = .bool true ∧ Z = Z' ∧ A' = []) := by
  refine Cz.fn (f := Tryz.f46) (by kernel_rfl) rfl rfl rfl _ rfl ?_
  (repeat (first | refine go ?_ | with_reducible intro _))
  refine Wk.call rfl rfl (Spl.none _) (compareSame s t hl) rfl rfl rfl ?_
  rintro v' Z' A' hz ⟨rfl, rfl, rfl⟩
  (repeat (first | refine go ?_ | with_reducible intro _))
  refine Wk.ret ⟨_, Rs.tmp rfl Rs.nil, _, Sub.none _, rfl, rfl, rfl⟩
theorem sameWeak {Z : Zone} {cs ct : List Value} {w : List Int} {ts : List (List Ins)} {r : Int} (h : WkR Z cs w ts r) (k : WkR Z ct w ts r) (hw : w.length ≤ 1000000) (ht : ts.length ≤ 1000000) (hi : ∀ t ∈ ts, t.length ≤ 1000000) :
    Cz M (.func (.func 15) #[] #[]) [.agg ⟨cs⟩, .agg ⟨ct⟩] Z [] (fun v' Z' A' => v' = .bool true ∧ A' = []) := by
  obtain ⟨a1, b1, c1, d1, us, rfl, s1, q1, r1⟩ := h.form
  obtain ⟨a2, b2, c2, d2, vs, rfl, s2, q2, r2⟩ := k.form
  refine Cz.fn (f := Tryz.f15) (by kernel_rfl) rfl rfl rfl _ rfl ?_
  (repeat (first | refine go ?_ | with_reducible intro _))
  first | refine Wk.freezer Rem.head fun Z1 e1 x1 => ?_ | refine Wk.freeze Rem.head fun Z1 e1 x1 => ?_
  first | refine Wk.freezer Rem.head fun Z2 e2 x2 => ?_ | refine Wk.freeze Rem.head fun Z2 e2 x2 => ?_
  have x1' := e2 _ _ x1
  have s1 := s1.mono (e1.trans e2)
  have q1 := q1.mono (e1.trans e2)
  have s2 := s2.mono (e1.trans e2)
  have q2 := q2.mono (e1.trans e2)
  have r1 := r1.mono fun _ _ z => z.mono (e1.trans e2)
  have r2 := r2.mono fun _ _ z => z.mono (e1.trans e2)
  refine Wk.caser 12 rfl (fun hc => absurd hc (by simp)) (fun hc => ?_)
  (repeat (first | refine go ?_ | with_reducible intro _))
  refine Wk.call rfl rfl (Spl.none _) (intsSame s1 s2 hw) rfl rfl rfl ?_
  rintro v' Z' A' hz ⟨rfl, rfl, rfl⟩
  (repeat (first | refine go ?_ | with_reducible intro _))
  refine Wk.cond rfl (fun hc => absurd hc (by simp)) (fun hc => ?_)
  (repeat (first | refine go ?_ | with_reducible intro _))
  refine Wk.loop (fun mm L Z' A' => ∃ t : Nat, t ≤ ts.length ∧ mm = ts.length - t ∧ Z2 = Z' ∧ Sub A' [] ∧ (True) ∧ Kp L [(2, .pointer (some ⟨_, 0, none⟩)), (3, .pointer (some ⟨_, 0, none⟩)), (5, .int .i64 t)]) (ts.length) ⟨0, Nat.zero_le _, rfl, rfl, (by repeat (first | exact Sub.none _ | exact Sub.refl _ | refine Sub.keep ?_ | refine Sub.drop ?_)), trivial, (by repeat (first | exact trivial | refine And.intro rfl ?_ | refine And.intro (kpI rfl (by omega)) ?_))⟩ ?_
  rintro mm L Z' A' - ⟨t, hj, rfl, rfl, hsub, inv, hk⟩
  refine Wk.drop hsub ?_
  refine Wk.kp hk ?_
  clear hk hsub
  (repeat (first | refine go ?_ | with_reducible intro _))
  refine Wk.cond rfl (fun hc => ?_) (fun hc => ?_)
  · have hlt : t < ts.length := by simp at hc; omega
    clear hc
    obtain ⟨u, g1, t1⟩ := r1.getElem hlt
    obtain ⟨u', g2, t2⟩ := r2.getElem hlt
    have hil := hi _ (List.getElem_mem hlt)
    obtain ⟨m1, n1, rfl⟩ := t1.form
    obtain ⟨m2, n2, rfl⟩ := t2.form
    have f1 : getCells us (t * 1) 1 = some [_] := getCells_one (by simpa using g1)
    have f2 : getCells vs (t * 1) 1 = some [_] := getCells_one (by simpa using g2)
    (repeat (first | refine go ?_ | with_reducible intro _))
    refine Wk.drawr (ms := [0, 1, 0, 7, 15, 31, 0, 64, 0, 448, 960, 1984, 4095]) (l := [0, 1, 2, 3, 4, 5, 6, 7, 8, 9, 10, 11, 12]) (by kernel_rfl) (by kernel_rfl) (by kernel_rfl) rfl ?_
    (repeat (first | refine go ?_ | with_reducible intro _))
    refine Wk.cond rfl (fun hc => absurd hc (by simp)) (fun hc => ?_)
    (repeat (first | refine go ?_ | with_reducible intro _))
    refine Wk.loop (fun mm L Z' A' => ∃ i : Nat, i ≤ ts[t].length ∧ mm = ts[t].length - i ∧ Z2 = Z' ∧ Sub A' [] ∧ (True) ∧ Kp L [(2, .pointer (some ⟨_, 0, none⟩)), (3, .pointer (some ⟨_, 0, none⟩)), (5, .int .i64 t), (6, .int .i64 i)]) (ts[t].length) ⟨0, Nat.zero_le _, rfl, rfl, (by repeat (first | exact Sub.none _ | exact Sub.refl _ | refine Sub.keep ?_ | refine Sub.drop ?_)), trivial, (by repeat (first | exact trivial | refine And.intro rfl ?_ | refine And.intro (kpI rfl (by omega)) ?_))⟩ ?_
    rintro mm L Z' A' - ⟨i, hj, rfl, rfl, hsub, inv, hk⟩
    refine Wk.drop hsub ?_
    refine Wk.kp hk ?_
    clear hk hsub
    (repeat (first | refine go ?_ | with_reducible intro _))
    refine Wk.cond rfl (fun hc => ?_) (fun hc => ?_)
    · have hit : i < ts[t].length := by simp at hc; omega
      clear hc
      have f3 := insL_get hit
      (repeat (first | refine go ?_ | with_reducible intro _))
      refine Wk.drawr (ms := [0, 1, 0, 7, 15, 0, 63, 127, 0, 256, 0, 1792, 3840, 0, 16128, 32512, 65535]) (l := [0, 1, 2, 3, 4, 5, 6, 7, 8, 9, 10, 11, 12, 13, 14, 15, 16]) (by kernel_rfl) (by kernel_rfl) (by kernel_rfl) rfl ?_
      (repeat (first | refine go ?_ | with_reducible intro _))
      refine Wk.bin rfl rfl (ins_neq _) rfl rfl ?_
      (repeat (first | refine go ?_ | with_reducible intro _))
      refine Wk.inv ⟨_, by omega, i + 1, by omega, rfl, rfl, (by repeat (first | exact Sub.none _ | exact Sub.refl _ | refine Sub.keep ?_ | refine Sub.drop ?_)), trivial, (by repeat (first | exact trivial | refine And.intro rfl ?_ | refine And.intro (kpI rfl (by omega)) ?_))⟩
    · (repeat (first | refine go ?_ | with_reducible intro _))
      refine Wk.inv ⟨_, by omega, t + 1, by omega, rfl, rfl, (by repeat (first | exact Sub.none _ | exact Sub.refl _ | refine Sub.keep ?_ | refine Sub.drop ?_)), trivial, (by repeat (first | exact trivial | refine And.intro rfl ?_ | refine And.intro (kpI rfl (by omega)) ?_))⟩
  · (repeat (first | refine go ?_ | with_reducible intro _))
    refine Wk.ret ⟨_, Rs.tmp rfl Rs.nil, _, Sub.none _, rfl, rfl⟩
end Go.Proofs.J
/- The law DequePrograms. -/
namespace Go.Proofs.J
open Go.Ev Go
set_option linter.unusedVariables false
set_option maxHeartbeats 4000000
set_option maxRecDepth 100000
open Classical in
noncomputable def prW (d : Dq) : List Int := if DqE d = 0 then List.replicate (2 + d.size.toNat) 0 else []
open Classical in
noncomputable def prT (d : Dq) : List (List Ins) := if DqE d = 0 then progI d else []
open Classical in
noncomputable def prR (d : Dq) : Int := if DqE d = 0 then d.room else 0
abbrev zW : List Value := [.slice none 0 0, .slice none 0 0, .int .i64 0]
theorem WkR.bad {Z : Zone} {d : Dq} (h : ¬ DqE d = 0) : WkR Z zW (prW d) (prT d) (prR d) := by
  unfold prW prT prR
  rw [if_neg h, if_neg h, if_neg h]
  exact ⟨_, _, rfl, Sl.nil, [], Sl.nil, .nil⟩
theorem WkR.ok {Z : Zone} {cs : List Value} {d : Dq} (h : DqE d = 0) (k : WkR Z cs (List.replicate (2 + d.size.toNat) 0) (progI d) d.room) : WkR Z cs (prW d) (prT d) (prR d) := by
  unfold prW prT prR
  rw [if_pos h, if_pos h, if_pos h]
  exact k
theorem prog_ {Z : Zone} {cs : List Value} {d : Dq} (h : DqR Z cs d) (ho : d.owner.length ≤ 1000) (ht : d.thieves.length ≤ 1000) :
    Cz M (.func (.func 11) #[] #[]) [.agg ⟨cs⟩] Z [] (fun v' Z' A' => (∃ cs', v' = .tuple ⟨[.agg ⟨cs'⟩, .int .i64 (DqE d)]⟩ ∧ WkR Z' cs' (prW d) (prT d) (prR d)) ∧ A' = []) := by
  have hD := h
  obtain ⟨a, b, c, e, rfl, so, st⟩ := h.form
  refine Cz.fn (f := Tryz.f11) (by kernel_rfl) rfl rfl rfl _ rfl ?_
  (repeat (first | refine go ?_ | with_reducible intro _))
  refine Wk.call rfl rfl (Spl.none _) (check_ hD ho ht) rfl rfl rfl ?_
  rintro v' Z1 A' hz1 ⟨rfl, rfl⟩
  (repeat (first | refine go ?_ | with_reducible intro _))
  refine Wk.cond rfl (fun hc => ?_) (fun hc => ?_)
  · have hne : ¬ DqE d = 0 := by simpa using hc
    (repeat (first | refine go ?_ | with_reducible intro _))
    refine Wk.ret ⟨_, Rs.cell rfl rfl (by first | exact Or.inl (by assumption) | (refine Or.inr ?_; repeat (first | exact List.Mem.head _ | refine List.Mem.tail _ ?_))) rfl rfl (Rs.tmp rfl Rs.nil), _, Sub.none _, ⟨_, rfl, WkR.bad hne⟩, rfl⟩
  · have he : DqE d = 0 := by simpa using hc
    (repeat (first | refine go ?_ | with_reducible intro _))
    refine Wk.call rfl rfl (Spl.none _) (program_ (hD.mono hz1) (DqE_zero he)) rfl rfl rfl ?_
    rintro v' Z2 A' hz2 ⟨⟨cs', rfl, hk⟩, rfl⟩
    obtain ⟨p1, p2, p3, p4, us, rfl, _, _, _⟩ := hk.form
    (repeat (first | refine go ?_ | with_reducible intro _))
    refine Wk.ret ⟨_, Rs.cell rfl rfl (by first | exact Or.inl (by assumption) | (refine Or.inr ?_; repeat (first | exact List.Mem.head _ | refine List.Mem.tail _ ?_))) rfl rfl (Rs.tmp rfl Rs.nil), _, Sub.none _, ⟨_, by rw [he]; rfl, WkR.ok he hk⟩, rfl⟩
theorem thr_ok {d : Dq} (ho : d.owner.length ≤ 1000) : (prW d).length ≤ 1000000 ∧ (prT d).length ≤ 1000000 ∧ ∀ t ∈ prT d, t.length ≤ 1000000 := by
  unfold prW prT
  by_cases h : DqE d = 0
  · have ok := DqE_zero h
    have h1 := ok.rng.1
    have h2 := ok.lim
    rw [if_pos h, if_pos h]
    refine ⟨by simp; omega, by simp [progI]; have := h2.2.1; omega, fun t ht => ?_⟩
    rcases List.mem_cons.1 ht with rfl | ht
    · have := thrI_len (size := d.size) (f := actI d.fence d.owner) (k := 21) (fun a i => actI_len a i) d.owner.length
      unfold ownI; omega
    · obtain ⟨m, hm, rfl⟩ := List.mem_map.1 ht
      have := thrI_len (size := d.size) (f := fun a _ => stealI a) (k := 15) (fun a i => Nat.le_of_eq (stealI_len a)) m.toNat
      have := h2.2.2 m hm
      unfold thiefI; omega
  · rw [if_neg h, if_neg h]
    exact ⟨by simp, by simp, fun t ht => by cases ht⟩
theorem DequePrograms {Z : Zone} {cs : List Value} {d : Dq} (h : DqR Z cs d) :
    Cz M (.func (.func 3) #[] #[]) [.agg ⟨cs⟩] Z [] (fun v' _ _ => v' = .bool true) := by
  have hD := h
  obtain ⟨a, b, c, e, rfl, so, st⟩ := h.form
  refine Cz.fn (f := Tryz.f3) (by kernel_rfl) rfl rfl rfl _ rfl ?_
  (repeat (first | refine go ?_ | with_reducible intro _))
  refine Wk.call rfl rfl (Spl.none _) (thinDq hD) rfl rfl rfl ?_
  rintro v' Z' A' hz ⟨⟨r, rfl, hr⟩, rfl, rfl⟩
  cases r with
  | false =>
    (repeat (first | refine go ?_ | with_reducible intro _))
    refine Wk.call rfl rfl (Spl.none _) ((Cz.ora rfl)) rfl rfl rfl ?_
    rintro v' Z' A' hz ⟨rfl, rfl, rfl⟩
    (repeat (first | refine go ?_ | with_reducible intro _))
    refine Wk.ret ?_
    exact ⟨_, Rs.tmp rfl Rs.nil, _, Sub.none _, rfl⟩
  | true =>
  obtain ⟨ho, ht⟩ := hr.1 rfl
  obtain ⟨k1, k2, k3⟩ := thr_ok (d := d) (by omega)
  (repeat (first | refine go ?_ | with_reducible intro _))
  refine Wk.call rfl rfl (Spl.none _) (copyDq hD (by omega) (by omega)) rfl rfl rfl ?_
  rintro v' Z1 A' hz1 ⟨⟨cs1, rfl, h1⟩, rfl⟩
  obtain ⟨a1, b1, c1, e1, rfl, _, _⟩ := h1.form
  (repeat (first | refine go ?_ | with_reducible intro _))
  refine Wk.call rfl rfl (Spl.none _) (prog_ h1 (by omega) (by omega)) rfl rfl rfl ?_
  rintro v' Z2 A' hz2 ⟨⟨cs2, rfl, h2⟩, rfl⟩
  obtain ⟨a2, b2, c2, e2, us2, rfl, _, _, _⟩ := h2.form
  (repeat (first | refine go ?_ | with_reducible intro _))
  refine Wk.call rfl rfl (Spl.none _) (rCheck (hD.mono (hz1.trans hz2)) (by omega) (by omega)) rfl rfl rfl ?_
  rintro v' Z3 A' hz3 ⟨rfl, rfl⟩
  (repeat (first | refine go ?_ | with_reducible intro _))
  have key : ∀ (L : Lo), True := fun _ => trivial
  refine Wk.cond rfl (fun hc => ?_) (fun hc => ?_)
  · have he : DqE d = 0 := by simpa using hc
    (repeat (first | refine go ?_ | with_reducible intro _))
    refine Wk.call rfl rfl (Spl.none _) (rProgram (hD.mono ((hz1.trans hz2).trans hz3)) (DqE_zero he)) rfl rfl rfl ?_
    rintro v' Z4 A' hz4 ⟨⟨cs4, rfl, h4⟩, rfl⟩
    have h4 := WkR.ok he h4
    obtain ⟨a4, b4, c4, e4, us4, rfl, _, _, _⟩ := h4.form
    (repeat (first | refine go ?_ | with_reducible intro _))
    refine Wk.caser 27 rfl (fun hc => ?_) (fun hc => absurd hc (by simp))
    (repeat (first | refine go ?_ | with_reducible intro _))
    refine Wk.call rfl rfl (Spl.none _) (sameWeak (h2.mono (hz3.trans hz4)) h4 k1 k2 k3) rfl rfl rfl ?_
    rintro v' Z5 A' hz5 ⟨rfl, rfl⟩
    (repeat (first | refine go ?_ | with_reducible intro _))
    refine Wk.call rfl rfl (Spl.none _) ((Cz.ora rfl)) rfl rfl rfl ?_
    rintro v' Z' A' hz ⟨rfl, rfl, rfl⟩
    (repeat (first | refine go ?_ | with_reducible intro _))
    refine Wk.ret ?_
    exact ⟨_, Rs.tmp rfl Rs.nil, _, Sub.none _, rfl⟩
  · have he : ¬ DqE d = 0 := by simpa using hc
    (repeat (first | refine go ?_ | with_reducible intro _))
    refine Wk.caser 27 rfl (fun hc => ?_) (fun hc => absurd hc (by simp))
    (repeat (first | refine go ?_ | with_reducible intro _))
    refine Wk.call rfl rfl (Spl.none _) (sameWeak (h2.mono hz3) (WkR.bad he) k1 k2 k3) rfl rfl rfl ?_
    rintro v' Z5 A' hz5 ⟨rfl, rfl⟩
    (repeat (first | refine go ?_ | with_reducible intro _))
    refine Wk.call rfl rfl (Spl.none _) ((Cz.ora rfl)) rfl rfl rfl ?_
    rintro v' Z' A' hz ⟨rfl, rfl, rfl⟩
    (repeat (first | refine go ?_ | with_reducible intro _))
    refine Wk.ret ?_
    exact ⟨_, Rs.tmp rfl Rs.nil, _, Sub.none _, rfl⟩
end Go.Proofs.J
/- Arguments, out of what Wt tells of them. -/
namespace Go.Proofs.J
open Go.Ev Go
set_option linter.unusedVariables false
set_option maxHeartbeats 4000000
theorem drop1 {vs : List Value} {i : Nat} {x : Value} (h : (vs.drop (i * 1)).take 1 = [x]) : vs[i]? = some x := by
  rw [Nat.mul_one] at h
  have := congrArg (fun l => l[0]?) h
  simpa [List.getElem?_take, List.getElem?_drop] using this
theorem list_of {α : Type} {R : Value → α → Prop} : ∀ (vs : List Value), (∀ i, i < vs.length → ∃ x a, vs[i]? = some x ∧ R x a) → ∃ l : List α, All2 R vs l
  | [], _ => ⟨[], .nil⟩
  | v :: vs, h => by
    obtain ⟨x, a, h1, h2⟩ := h 0 (by simp)
    obtain ⟨l, hl⟩ := list_of vs fun i hi => by have := h (i + 1) (by simp; omega); simpa using this
    simp at h1
    exact ⟨a :: l, .cons (h1 ▸ h2) hl⟩
theorem len2 {l : List Value} (h : l.length = 2) : ∃ a b, l = [a, b] := by
  match l, h with
  | [a, b], _ => exact ⟨a, b, rfl⟩
theorem c5 : Tryz.prog.cellsOf 5 = 1 := by kernel_rfl
theorem c3 : Tryz.prog.cellsOf 3 = 1 := by kernel_rfl
theorem c52 : Tryz.prog.cellsOf 23 = 1 := by kernel_rfl
theorem ints_of {k : IntKind} {vs : List Value} {l : List Int} (h : All2 (fun x a => x = Value.int k a) vs l) : vs = l.map (Value.int k) := by
  induction h with
  | nil => rfl
  | cons h _ ih => rw [h, ih]; rfl
theorem wt_ints {Z : Zone} {d : Nat} {cs : List Value} (h : Wt Tryz.prog Z d 23 cs) : ∃ v xs, cs = [v] ∧ Sl Z 1 v xs.length (i64s xs) := by
  cases d with
  | zero => exact h.elim
  | succ d =>
    simp only [Wt, Tryz.underlying23, c3] at h
    obtain ⟨v, m, vs, rfl, hs, _, hw⟩ := h
    have hl := hs.length
    obtain ⟨l, hl2⟩ := list_of (R := fun x a => x = Value.int .i64 a) vs fun i hi => by
      have := hw i (by omega)
      cases d with
      | zero => exact this.elim
      | succ d =>
        simp only [Wt, Tryz.underlying3] at this
        obtain ⟨n, e, _⟩ := this
        exact ⟨_, n, drop1 e, rfl⟩
    have e := ints_of hl2
    subst e
    refine ⟨v, l, rfl, ?_⟩
    have : m = l.length := by simp at hl; omega
    subst this
    exact hs
end Go.Proofs.J
/- Deques, out of what Wt tells of them; the law DequePrograms, of arguments that are what their types say. -/
namespace Go.Proofs.J
open Go Go.Ev
set_option linter.unusedVariables false
set_option maxHeartbeats 4000000
set_option maxRecDepth 100000
theorem cD1 : Tryz.prog.cellsOf 25 = 5 := by kernel_rfl
theorem cD2 : Tryz.prog.cellsOf 22 = 1 := by kernel_rfl
theorem cD3 : Tryz.prog.cellsOf 78 = 2 := by kernel_rfl
theorem cD4 : Tryz.prog.cellsOf 4 = 1 := by kernel_rfl
theorem wt_i64 {Z : Zone} {d : Nat} {v : Value} (h : Wt Tryz.prog Z d 3 [v]) : ∃ n, v = .int .i64 n := by
  cases d with
  | zero => exact h.elim
  | succ d =>
    simp only [Wt, Tryz.underlying3] at h
    obtain ⟨n, e, _⟩ := h
    cases e; exact ⟨_, rfl⟩
theorem wt_bool {Z : Zone} {d : Nat} {cs : List Value} (h : Wt Tryz.prog Z d 4 cs) : ∃ n, cs = [.bool n] := by
  cases d with
  | zero => exact h.elim
  | succ d =>
    simp only [Wt, Tryz.underlying4] at h
    obtain ⟨n, e⟩ := h
    exact ⟨_, e⟩
theorem len5 {l : List Value} (h : l.length = 5) : ∃ a b c d e, l = [a, b, c, d, e] := by
  match l, h with
  | [a, b, c, d, e], _ => exact ⟨a, b, c, d, e, rfl⟩
theorem wt_act {Z : Zone} {d : Nat} {cs : List Value} (h : Wt Tryz.prog Z d 78 cs) : ∃ a, cs = actC a := by
  cases d with
  | zero => exact h.elim
  | succ d =>
    simp only [Wt, Tryz.underlying78, cD3] at h
    obtain ⟨hlen, hf⟩ := h
    obtain ⟨a, b, rfl⟩ := len2 hlen
    have f0 := hf _ (List.Mem.head _)
    have f1 := hf _ (List.Mem.tail _ (List.Mem.head _))
    simp only [cD4, c3, List.drop_zero, List.drop_succ_cons, List.take_succ_cons, List.take_zero] at f0 f1
    obtain ⟨p, e0⟩ := wt_bool f0
    obtain ⟨n, rfl⟩ := wt_i64 f1
    cases e0
    exact ⟨⟨p, n⟩, rfl⟩
theorem fm_of {α : Type} {f : α → List Value} {k m : Nat} {vs : List Value} (hk : ∀ x, (f x).length = k) (hl : vs.length = m * k) (h : ∀ i, i < m → ∃ x, (vs.drop (i * k)).take k = f x) : ∃ l : List α, l.length = m ∧ vs = l.flatMap f := by
  have key : ∀ j, j ≤ m → ∃ l : List α, l.length = j ∧ vs.take (j * k) = l.flatMap f := by
    intro j
    induction j with
    | zero => exact fun _ => ⟨[], rfl, by simp⟩
    | succ j ih =>
      intro hj
      obtain ⟨l, h1, h2⟩ := ih (by omega)
      obtain ⟨x, hx⟩ := h j (by omega)
      refine ⟨l ++ [x], by simp [h1], ?_⟩
      rw [Nat.add_mul, Nat.one_mul, List.take_add, h2, hx, List.flatMap_append]
      simp
  obtain ⟨l, h1, h2⟩ := key m (Nat.le_refl _)
  refine ⟨l, h1, ?_⟩
  rw [← hl, List.take_length] at h2
  exact h2
theorem wt_acts {Z : Zone} {d : Nat} {cs : List Value} (h : Wt Tryz.prog Z d 22 cs) : ∃ (v : Value) (l : List Act), cs = [v] ∧ Sl Z 2 v l.length (l.flatMap actC) := by
  cases d with
  | zero => exact h.elim
  | succ d =>
    simp only [Wt, Tryz.underlying22, cD3] at h
    obtain ⟨v, m, vs, rfl, hs, _, hw⟩ := h
    obtain ⟨l, h1, rfl⟩ := fm_of (f := actC) (k := 2) (fun _ => rfl) hs.length fun i hi => wt_act (hw i hi)
    subst h1
    exact ⟨v, l, rfl, hs⟩
theorem wt_deque {Z : Zone} {d : Nat} {cs : List Value} (h : Wt Tryz.prog Z d 25 cs) : ∃ q, DqR Z cs q := by
  cases d with
  | zero => exact h.elim
  | succ d =>
    simp only [Wt, Tryz.underlying25, cD1] at h
    obtain ⟨hlen, hf⟩ := h
    obtain ⟨a, b, c, e1, e2, rfl⟩ := len5 hlen
    have f0 := hf _ (List.Mem.head _)
    have f1 := hf _ (List.Mem.tail _ (List.Mem.head _))
    have f2 := hf _ (List.Mem.tail _ (List.Mem.tail _ (List.Mem.head _)))
    have f3 := hf _ (List.Mem.tail _ (List.Mem.tail _ (List.Mem.tail _ (List.Mem.head _))))
    have f4 := hf _ (List.Mem.tail _ (List.Mem.tail _ (List.Mem.tail _ (List.Mem.tail _ (List.Mem.head _)))))
    simp only [cD2, cD4, c3, c52, List.drop_zero, List.drop_succ_cons, List.take_succ_cons, List.take_zero] at f0 f1 f2 f3 f4
    obtain ⟨n1, rfl⟩ := wt_i64 f0
    obtain ⟨n2, rfl⟩ := wt_i64 f1
    obtain ⟨p, e⟩ := wt_bool f2
    obtain ⟨v, l, e3, h3⟩ := wt_acts f3
    obtain ⟨w, m, e4, h4⟩ := wt_ints f4
    cases e; cases e3; cases e4
    exact ⟨⟨n1, n2, p, l, m⟩, _, _, rfl, h3, h4⟩
end Go.Proofs.J
