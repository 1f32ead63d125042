/- DD -/
import Derived.Test.YtokmcighnjhfjaaGreatDC
/- The instructions of a push, a pop and a steal, or the errors; the law DequeChecks. -/
namespace Go.Proofs.J
open Go.Ev Go
set_option linter.unusedVariables false
set_option maxHeartbeats 4000000
set_option maxRecDepth 100000
open Classical in
noncomputable def madE (d : Dq) (a : Int) : Int := if ¬ DqE d = 0 then DqE d else if ¬ (0 ≤ a ∧ a ≤ 200) then 3 else 0
open Classical in
noncomputable def madL (d : Dq) (a : Int) (l : List Ins) : List Ins := if madE d a = 0 then l else []
theorem made_ {Z : Zone} {cs : List Value} {d : Dq} {fv : Value} {a : Int} {ins : List Ins} (h : DqR Z cs d) (ho : d.owner.length ≤ 1000) (ht : d.thieves.length ≤ 1000)
    (hf : ∀ Z' b, Ext Z Z' → 0 ≤ a ∧ a ≤ 200 → Cz M fv [.pointer (some ⟨b, 0, none⟩)] Z' (MkA b a (.slice none 0 0) []) (fun _ Z'' A' => MkQ b a ins Z' Z'' A')) :
    Cz M (.func (.func 47) #[] #[]) [.agg ⟨cs⟩, .int .i64 a, fv] Z [] (fun v' Z' A' => (∃ v, v' = .tuple ⟨[v, .int .i64 (madE d a)]⟩ ∧ Sl Z' 6 v (madL d a ins).length (insL (madL d a ins))) ∧ A' = []) := by
  have hD := h
  obtain ⟨p1, p2, p3, p4, rfl, so, st⟩ := h.form
  refine Cz.fn (f := Tryz.f47) (by kernel_rfl) rfl rfl rfl _ rfl ?_
  (repeat (first | refine go ?_ | with_reducible intro _))
  refine Wk.call rfl rfl (Spl.none _) (check_ hD ho ht) rfl rfl rfl ?_
  rintro v' Z1 A' hz1 ⟨rfl, rfl⟩
  (repeat (first | refine go ?_ | with_reducible intro _))
  refine Wk.cond rfl (fun hc => ?_) (fun hc => ?_)
  · have hne : ¬ DqE d = 0 := by simpa using hc
    have e1 : madE d a = DqE d := by unfold madE; rw [if_pos hne]
    have e2 : madL d a ins = [] := by unfold madL; rw [e1, if_neg hne]
    (repeat (first | refine go ?_ | with_reducible intro _))
    refine Wk.ret ⟨_, Rs.tmp rfl (Rs.tmp rfl Rs.nil), _, Sub.none _, ⟨_, by rw [e1]; rfl, by rw [e2]; exact Sl.nil⟩, rfl⟩
  have he : DqE d = 0 := by simpa using hc
  clear hc
  (repeat (first | refine go ?_ | with_reducible intro _))
  refine Wk.call rfl rfl (Spl.none _) (within_) rfl rfl rfl ?_
  rintro v' Z' A' hz ⟨⟨r, rfl, hr⟩, rfl, rfl⟩
  (repeat (first | refine go ?_ | with_reducible intro _))
  refine Wk.cond rfl (fun hc => ?_) (fun hc => ?_)
  · have hne : ¬ (0 ≤ a ∧ a ≤ 200) := fun k => by rw [hr.2 k] at hc; cases hc
    have e1 : madE d a = 3 := by unfold madE; rw [if_neg (fun k => k he), if_pos hne]
    have e2 : madL d a ins = [] := by unfold madL; rw [e1, if_neg (by decide)]
    (repeat (first | refine go ?_ | with_reducible intro _))
    refine Wk.ret ⟨_, Rs.tmp rfl (Rs.tmp rfl Rs.nil), _, Sub.none _, ⟨_, by rw [e1]; rfl, by rw [e2]; exact Sl.nil⟩, rfl⟩
  have ha : 0 ≤ a ∧ a ≤ 200 := hr.1 (by simpa using hc)
  have e1 : madE d a = 0 := by unfold madE; rw [if_neg (fun k => k he), if_neg (fun k => k ha)]
  have e2 : madL d a ins = ins := by unfold madL; rw [if_pos e1]
  clear hc hr
  (repeat (first | refine go ?_ | with_reducible intro _))
  rename_i b20
  refine Wk.olNilr 6 ?_
  refine Wk.call rfl rfl (.l (.l (Spl.none _))) (hf Z1 b20 hz1 ha) rfl rfl rfl ?_
  rintro v' Z2 A' hz2 ⟨e3, v2, rfl⟩
  first | refine Wk.knowr (by repeat (first | exact Rem.head | apply Rem.tail)) (fun s h => ol.form (v := v2) h) ?_ | refine Wk.know (by repeat (first | exact Rem.head | apply Rem.tail)) (fun s h => ol.form (v := v2) h) ?_
  rintro ⟨a2, c2, rfl⟩
  (repeat (first | refine go ?_ | with_reducible intro _))
  first | apply Wk.olFreezer (v := .slice a2 ins.length c2) | apply Wk.olFreeze (v := .slice a2 ins.length c2)
  case p => repeat (first | exact Rem.head | apply Rem.tail)
  intro Z3 e4 s3
  refine Wk.ret ⟨_, Rs.tmp rfl (Rs.tmp rfl Rs.nil), _, Sub.none _, ⟨_, by rw [e1]; rfl, by rw [e2]; exact s3⟩, rfl⟩
open Classical in
noncomputable def pshE (d : Dq) (a n : Int) : Int := if madE d a = 0 ∧ ¬ Item n then 3 else madE d a
open Classical in
noncomputable def pshL (d : Dq) (a n : Int) : List Ins := if pshE d a n = 0 then pushI a n else []
theorem push_ {Z : Zone} {cs : List Value} {d : Dq} {a n : Int} (h : DqR Z cs d) (ho : d.owner.length ≤ 1000) (ht : d.thieves.length ≤ 1000) :
    Cz M (.func (.func 16) #[] #[]) [.agg ⟨cs⟩, .int .i64 a, .int .i64 n] Z [] (fun v' Z' A' => (∃ v, v' = .tuple ⟨[v, .int .i64 (pshE d a n)]⟩ ∧ Sl Z' 6 v (pshL d a n).length (insL (pshL d a n))) ∧ A' = []) := by
  have hD := h
  obtain ⟨p1, p2, p3, p4, rfl, so, st⟩ := h.form
  refine Cz.fn (f := Tryz.f16) (by kernel_rfl) rfl rfl rfl _ rfl ?_
  (repeat (first | refine go ?_ | with_reducible intro _))
  rename_i b3 b5
  refine Wk.freezer Rem.head fun Z1 e1 h5 => ?_
  (repeat (first | refine go ?_ | with_reducible intro _))
  refine Wk.call rfl rfl (Spl.none _) (made_ (a := a) (ins := pushI a n) (hD.mono e1) ho ht fun Z' b hz ha => by
    have h5' := hz _ _ h5
    refine Cz.fn (f := Tryz.f48) (by kernel_rfl) rfl rfl rfl _ rfl ?_
    (repeat (first | refine go ?_ | with_reducible intro _))
    refine Wk.call rfl rfl (.l (.l .nil)) (mPush (l := []) n ⟨ha.1, by omega⟩ (Nat.zero_le _)) rfl rfl rfl ?_
    rintro v' Z2 A' hz2 ⟨e3, v2, rfl⟩
    (repeat (first | refine go ?_ | with_reducible intro _))
    exact Wk.done ⟨_, Rs.nil, _, Sub.refl _, e3, v2, rfl⟩) rfl rfl rfl ?_
  rintro v' Z2 A' hz2 ⟨⟨v, rfl, hs⟩, rfl⟩
  have h5' := hz2 _ _ h5
  obtain ⟨a2, c2, rfl⟩ := hs.form
  (repeat (first | refine go ?_ | with_reducible intro _))
  refine Wk.caser 19 rfl (fun hc => ?_) (fun hc => ?_)
  · have h0 : madE d a = 0 := by simpa using hc
    (repeat (first | refine go ?_ | with_reducible intro _))
    refine Wk.call rfl rfl (Spl.none _) (isItem_) rfl rfl rfl ?_
    rintro v' Z' A' hz ⟨⟨r, rfl, hr⟩, rfl, rfl⟩
    (repeat (first | refine go ?_ | with_reducible intro _))
    refine Wk.cond rfl (fun hc => ?_) (fun hc => ?_)
    · have hn : ¬ Item n := fun k => by rw [hr.2 k] at hc; cases hc
      have q1 : pshE d a n = 3 := by unfold pshE; rw [if_pos ⟨h0, hn⟩]
      have q2 : pshL d a n = [] := by unfold pshL; rw [q1, if_neg (by decide)]
      (repeat (first | refine go ?_ | with_reducible intro _))
      refine Wk.ret ⟨_, Rs.tmp rfl (Rs.tmp rfl Rs.nil), _, Sub.none _, ⟨_, by rw [q1]; rfl, by rw [q2]; exact Sl.nil⟩, rfl⟩
    · have hn : Item n := hr.1 (by simpa using hc)
      have q1 : pshE d a n = madE d a := by unfold pshE; rw [if_neg (fun k => k.2 hn)]
      have q2 : pshL d a n = madL d a (pushI a n) := by unfold pshL madL; rw [q1]
      (repeat (first | refine go ?_ | with_reducible intro _))
      refine Wk.ret ⟨_, Rs.tmp rfl (Rs.tmp rfl Rs.nil), _, Sub.none _, ⟨_, by rw [q1]; rfl, by rw [q2]; exact hs⟩, rfl⟩
  · have h0 : ¬ madE d a = 0 := by simpa using hc
    have q1 : pshE d a n = madE d a := by unfold pshE; rw [if_neg (fun k => h0 k.1)]
    have q2 : pshL d a n = madL d a (pushI a n) := by unfold pshL madL; rw [q1]
    (repeat (first | refine go ?_ | with_reducible intro _))
    refine Wk.ret ⟨_, Rs.tmp rfl (Rs.tmp rfl Rs.nil), _, Sub.none _, ⟨_, by rw [q1]; rfl, by rw [q2]; exact hs⟩, rfl⟩
theorem pop_ {Z : Zone} {cs : List Value} {d : Dq} {a : Int} (h : DqR Z cs d) (ho : d.owner.length ≤ 1000) (ht : d.thieves.length ≤ 1000) :
    Cz M (.func (.func 17) #[] #[]) [.agg ⟨cs⟩, .int .i64 a] Z [] (fun v' Z' A' => (∃ v, v' = .tuple ⟨[v, .int .i64 (madE d a)]⟩ ∧ Sl Z' 6 v (madL d a (popI a d.fence)).length (insL (madL d a (popI a d.fence)))) ∧ A' = []) := by
  have hD := h
  obtain ⟨p1, p2, p3, p4, rfl, so, st⟩ := h.form
  refine Cz.fn (f := Tryz.f17) (by kernel_rfl) rfl rfl rfl _ rfl ?_
  (repeat (first | refine go ?_ | with_reducible intro _))
  rename_i b2
  refine Wk.freezer Rem.head fun Z1 e1 h5 => ?_
  (repeat (first | refine go ?_ | with_reducible intro _))
  refine Wk.call rfl rfl (Spl.none _) (made_ (a := a) (ins := popI a d.fence) (hD.mono e1) ho ht fun Z' b hz ha => by
    have h5' := hz _ _ h5
    refine Cz.fn (f := Tryz.f51) (by kernel_rfl) rfl rfl rfl _ rfl ?_
    (repeat (first | refine go ?_ | with_reducible intro _))
    refine Wk.call rfl rfl (.l (.l .nil)) (mPop (l := []) d.fence ⟨ha.1, by omega⟩ (Nat.zero_le _)) rfl rfl rfl ?_
    rintro v' Z2 A' hz2 ⟨e3, v2, rfl⟩
    (repeat (first | refine go ?_ | with_reducible intro _))
    exact Wk.done ⟨_, Rs.nil, _, Sub.refl _, e3, v2, rfl⟩) rfl rfl rfl ?_
  rintro v' Z2 A' hz2 ⟨⟨v, rfl, hs⟩, rfl⟩
  obtain ⟨a2, c2, rfl⟩ := hs.form
  (repeat (first | refine go ?_ | with_reducible intro _))
  refine Wk.ret ⟨_, Rs.tmp rfl (Rs.tmp rfl Rs.nil), _, Sub.none _, ⟨_, rfl, hs⟩, rfl⟩
theorem steal_ {Z : Zone} {cs : List Value} {d : Dq} {a : Int} (h : DqR Z cs d) (ho : d.owner.length ≤ 1000) (ht : d.thieves.length ≤ 1000) :
    Cz M (.func (.func 18) #[] #[]) [.agg ⟨cs⟩, .int .i64 a] Z [] (fun v' Z' A' => (∃ v, v' = .tuple ⟨[v, .int .i64 (madE d a)]⟩ ∧ Sl Z' 6 v (madL d a (stealI a)).length (insL (madL d a (stealI a)))) ∧ A' = []) := by
  have hD := h
  obtain ⟨p1, p2, p3, p4, rfl, so, st⟩ := h.form
  refine Cz.fn (f := Tryz.f18) (by kernel_rfl) rfl rfl rfl _ rfl ?_
  (repeat (first | refine go ?_ | with_reducible intro _))
  refine Wk.call rfl rfl (Spl.none _) (made_ (a := a) (ins := stealI a) hD ho ht fun Z' b hz ha => mSteal (l := []) ⟨ha.1, by omega⟩ (Nat.zero_le _)) rfl rfl rfl ?_
  rintro v' Z2 A' hz2 ⟨⟨v, rfl, hs⟩, rfl⟩
  obtain ⟨a2, c2, rfl⟩ := hs.form
  (repeat (first | refine go ?_ | with_reducible intro _))
  refine Wk.ret ⟨_, Rs.tmp rfl (Rs.tmp rfl Rs.nil), _, Sub.none _, ⟨_, rfl, hs⟩, rfl⟩
theorem sameList {Z : Zone} {v w : Value} {l : List Ins} (s : Sl Z 6 v l.length (insL l)) (t : Sl Z 6 w l.length (insL l)) (hl : l.length ≤ 1000) :
    Cz M (.func (.func 21) #[] #[]) [v, w] Z [] (fun v' Z' A' => v' = .bool true ∧ A' = []) := by
  obtain ⟨q, c, rfl⟩ := s.form
  obtain ⟨r, e, rfl⟩ := t.form
  refine Cz.fn (f := Tryz.f21) (by kernel_rfl) rfl rfl rfl _ rfl ?_
  (repeat (first | refine go ?_ | with_reducible intro _))
  refine Wk.bs (cs := [.slice q l.length c]) rfl rfl rfl rfl rfl rfl rfl fun b6 => ?_
  (repeat (first | refine go ?_ | with_reducible intro _))
  refine Wk.bs (cs := [.slice r l.length e]) rfl rfl rfl rfl rfl rfl rfl fun b9 => ?_
  refine Wk.freezer Rem.head fun Z1 e1 h9 => ?_
  refine Wk.freezer Rem.head fun Z2 e2 h6 => ?_
  have h9' := e2 _ _ h9
  have k : ∀ {b : Nat} {x : Value}, Z2 b = some (.cells [x] true 0) → Sl Z2 6 x l.length (insL l) → WkR Z2 [.slice none 0 0, .slice (some ⟨b, 0, none⟩) 1 1, .int .i64 0] [] [l] 0 := fun hb hx => ⟨_, _, rfl, Sl.nil, [_], .inr ⟨_, 0, 1, _, _, _, rfl, Nat.le_refl _, hb, rfl, .inl rfl⟩, .cons hx .nil⟩
  (repeat (first | refine go ?_ | with_reducible intro _))
  refine Wk.call rfl rfl (Spl.none _) (sameWeak (k h6 (s.mono (e1.trans e2))) (k h9' (t.mono (e1.trans e2))) (by simp) (by simp) (by simp; omega)) rfl rfl rfl ?_
  rintro v' Z3 A' hz3 ⟨rfl, rfl⟩
  (repeat (first | refine go ?_ | with_reducible intro _))
  refine Wk.ret ⟨_, Rs.tmp rfl Rs.nil, _, Sub.none _, rfl, rfl⟩
end Go.Proofs.J
/- The law DequeChecks. -/
namespace Go.Proofs.J
open Go.Ev Go
set_option linter.unusedVariables false
set_option maxHeartbeats 4000000
set_option maxRecDepth 100000
theorem popI_le (a : Int) (f : Bool) : (popI a f).length ≤ 1000 := Nat.le_trans (popI_len a f) (by decide)
theorem DequeChecks {Z : Zone} {cs : List Value} {d : Dq} {a n : Int} (h : DqR Z cs d) :
    Cz M (.func (.func 4) #[] #[]) [.agg ⟨cs⟩, .int .i64 a, .int .i64 n] Z [] (fun v' _ _ => v' = .bool true) := by
  have hD := h
  obtain ⟨p1, p2, p3, p4, rfl, so, st⟩ := h.form
  refine Cz.fn (f := Tryz.f4) (by kernel_rfl) rfl rfl rfl _ rfl ?_
  (repeat (first | refine go ?_ | with_reducible intro _))
  rename_i b3
  refine Wk.freezer Rem.head fun Z0 e0 h3 => ?_
  have hD := hD.mono e0
  (repeat (first | refine go ?_ | with_reducible intro _))
  refine Wk.call rfl rfl (Spl.none _) (thinDq hD) rfl rfl rfl ?_
  rintro v' Z' A' hz ⟨⟨r, rfl, hr⟩, rfl, rfl⟩
  cases r with
  | false =>
    (repeat (first | refine go ?_ | with_reducible intro _))
    refine Wk.call rfl rfl (Spl.none _) ((Cz.ora rfl)) rfl rfl rfl ?_
    rintro v' Z' A' hz ⟨rfl, rfl, rfl⟩
    (repeat (first | refine go ?_ | with_reducible intro _))
    refine Wk.ret ?_
    exact ⟨_, Rs.tmp rfl Rs.nil, _, Sub.none _, rfl⟩
  | true =>
  obtain ⟨ho, ht⟩ := hr.1 rfl
  have ho := Nat.le_trans ho (show 12 ≤ 1000 by decide)
  have ht := Nat.le_trans ht (show 6 ≤ 1000 by decide)
  (repeat (first | refine go ?_ | with_reducible intro _))
  refine Wk.call rfl rfl (Spl.none _) (copyDq hD ho ht) rfl rfl rfl ?_
  rintro v' Z1 A' hz1 ⟨⟨cs1, rfl, h1⟩, rfl⟩
  have x1 := hz1 _ _ h3
  (repeat (first | refine go ?_ | with_reducible intro _))
  refine Wk.call rfl rfl (Spl.none _) (push_ (a := a) (n := n) h1 ho ht) rfl rfl rfl ?_
  rintro v' Z2 A' hz2 ⟨⟨vP, rfl, sP⟩, rfl⟩
  have x2 := hz2 _ _ x1
  have hD2 := hD.mono (hz1.trans hz2)
  obtain ⟨aP, cP, rfl⟩ := sP.form
  (repeat (first | refine go ?_ | with_reducible intro _))
  refine Wk.call rfl rfl (Spl.none _) (copyDq hD2 ho ht) rfl rfl rfl ?_
  rintro v' Z3 A' hz3 ⟨⟨cs3, rfl, h3'⟩, rfl⟩
  have x3 := hz3 _ _ x2
  (repeat (first | refine go ?_ | with_reducible intro _))
  refine Wk.call rfl rfl (Spl.none _) (pop_ (a := a) h3' ho ht) rfl rfl rfl ?_
  rintro v' Z4 A' hz4 ⟨⟨vO, rfl, sO⟩, rfl⟩
  have x4 := hz4 _ _ x3
  have hD4 := hD2.mono (hz3.trans hz4)
  obtain ⟨aO, cO, rfl⟩ := sO.form
  (repeat (first | refine go ?_ | with_reducible intro _))
  refine Wk.call rfl rfl (Spl.none _) (copyDq hD4 ho ht) rfl rfl rfl ?_
  rintro v' Z5 A' hz5 ⟨⟨cs5, rfl, h5⟩, rfl⟩
  have x5 := hz5 _ _ x4
  (repeat (first | refine go ?_ | with_reducible intro _))
  refine Wk.call rfl rfl (Spl.none _) (steal_ (a := a) h5 ho ht) rfl rfl rfl ?_
  rintro v' Z6 A' hz6 ⟨⟨vS, rfl, sS⟩, rfl⟩
  have x6 := hz6 _ _ x5
  have hD6 := hD4.mono (hz5.trans hz6)
  obtain ⟨aS, cS, rfl⟩ := sS.form
  (repeat (first | refine go ?_ | with_reducible intro _))
  refine Wk.call rfl rfl (Spl.none _) (rCheck hD6 ho ht) rfl rfl rfl ?_
  rintro v' Z7 A' hz7 ⟨rfl, rfl⟩
  have x7 := hz7 _ _ x6
  (repeat (first | refine go ?_ | with_reducible intro _))
  refine Wk.call rfl rfl (Spl.none _) (copyDq (hD6.mono hz7) ho ht) rfl rfl rfl ?_
  rintro v' Z8 A' hz8 ⟨⟨cs8, rfl, h8⟩, rfl⟩
  have x8 := hz8 _ _ x7
  (repeat (first | refine go ?_ | with_reducible intro _))
  refine Wk.call rfl rfl (Spl.none _) (check_ h8 ho ht) rfl rfl rfl ?_
  rintro v' Z9 A' hz9 ⟨rfl, rfl⟩
  have x9 := hz9 _ _ x8
  have hzS := (hz7.trans hz8).trans hz9
  have hzO := (hz5.trans hz6).trans hzS
  have hzP := (hz3.trans hz4).trans hzO
  have sP' := sP.mono hzP
  have sO' := sO.mono hzO
  have sS' := sS.mono hzS
  have hD9 := hD6.mono hzS
  clear sP sO sS
  (repeat (first | refine go ?_ | with_reducible intro _))
  refine Wk.cond rfl (fun hc => absurd hc (by simp)) (fun hc => ?_)
  clear hc
  (repeat (first | refine go ?_ | with_reducible intro _))
  refine Wk.caser 49 rfl (fun hc => ?_) (fun hc => ?_)
  rotate_left
  · have he : ¬ DqE d = 0 := by simpa using hc
    clear hc
    have qM : madE d a = DqE d := by unfold madE; rw [if_pos he]
    have qP : pshE d a n = DqE d := by unfold pshE; rw [if_neg (fun k => he (qM ▸ k.1)), qM]
    have lP : pshL d a n = [] := by unfold pshL; rw [qP, if_neg he]
    have lO : madL d a (popI a d.fence) = [] := by unfold madL; rw [qM, if_neg he]
    have lS : madL d a (stealI a) = [] := by unfold madL; rw [qM, if_neg he]
    (repeat (first | refine go ?_ | with_reducible intro _))
    refine Wk.cond rfl (fun hc => ?_) (fun hc => absurd hc (by simp [he]))
    clear hc
    (repeat (first | refine go ?_ | with_reducible intro _))
    have nP : (pshL d a n).length = 0 := by rw [lP]; rfl
    have nO : (madL d a (popI a d.fence)).length = 0 := by rw [lO]; rfl
    have nS : (madL d a (stealI a)).length = 0 := by rw [lS]; rfl
    refine Wk.caser 59 rfl (fun hc => ?_) (fun hc => absurd hc (by simp [qP]))
    clear hc
    (repeat (first | refine go ?_ | with_reducible intro _))
    refine Wk.caser 64 rfl (fun hc => ?_) (fun hc => absurd hc (by simp [qM]))
    clear hc
    (repeat (first | refine go ?_ | with_reducible intro _))
    refine Wk.caser 69 rfl (fun hc => ?_) (fun hc => absurd hc (by simp [qM]))
    clear hc
    (repeat (first | refine go ?_ | with_reducible intro _))
    refine Wk.caser 80 rfl (fun hc => ?_) (fun hc => absurd hc (by simp [lP, lO, lS]))
    clear hc
    (repeat (first | refine go ?_ | with_reducible intro _))
    refine Wk.call rfl rfl (Spl.none _) ((Cz.ora rfl)) rfl rfl rfl ?_
    rintro v' Z' A' hz ⟨rfl, rfl, rfl⟩
    (repeat (first | refine go ?_ | with_reducible intro _))
    refine Wk.ret ?_
    exact ⟨_, Rs.tmp rfl Rs.nil, _, Sub.none _, rfl⟩
  have he : DqE d = 0 := by simpa using hc
  clear hc
  (repeat (first | refine go ?_ | with_reducible intro _))
  refine Wk.call rfl rfl (Spl.none _) (rIn) rfl rfl rfl ?_
  rintro v' Z' A' hz ⟨⟨r, rfl, hr⟩, rfl, rfl⟩
  (repeat (first | refine go ?_ | with_reducible intro _))
  refine Wk.cond rfl (fun hc => ?_) (fun hc => ?_)
  · have ha : ¬ (0 ≤ a ∧ a ≤ 200) := fun k => by rw [hr.2 k] at hc; cases hc
    clear hc hr
    have qM : madE d a = 3 := by unfold madE; rw [if_neg (fun k => k he), if_pos ha]
    have qP : pshE d a n = 3 := by unfold pshE; rw [if_neg (fun k => by rw [qM] at k; exact absurd k.1 (by decide)), qM]
    have lP : pshL d a n = [] := by unfold pshL; rw [qP, if_neg (by decide)]
    have lO : madL d a (popI a d.fence) = [] := by unfold madL; rw [qM, if_neg (by decide)]
    have lS : madL d a (stealI a) = [] := by unfold madL; rw [qM, if_neg (by decide)]
    (repeat (first | refine go ?_ | with_reducible intro _))
    have nP : (pshL d a n).length = 0 := by rw [lP]; rfl
    have nO : (madL d a (popI a d.fence)).length = 0 := by rw [lO]; rfl
    have nS : (madL d a (stealI a)).length = 0 := by rw [lS]; rfl
    refine Wk.caser 59 rfl (fun hc => ?_) (fun hc => absurd hc (by simp [qP]))
    clear hc
    (repeat (first | refine go ?_ | with_reducible intro _))
    refine Wk.caser 64 rfl (fun hc => ?_) (fun hc => absurd hc (by simp [qM]))
    clear hc
    (repeat (first | refine go ?_ | with_reducible intro _))
    refine Wk.caser 69 rfl (fun hc => ?_) (fun hc => absurd hc (by simp [qM]))
    clear hc
    (repeat (first | refine go ?_ | with_reducible intro _))
    refine Wk.caser 80 rfl (fun hc => ?_) (fun hc => absurd hc (by simp [lP, lO, lS]))
    clear hc
    (repeat (first | refine go ?_ | with_reducible intro _))
    refine Wk.call rfl rfl (Spl.none _) ((Cz.ora rfl)) rfl rfl rfl ?_
    rintro v' Z' A' hz ⟨rfl, rfl, rfl⟩
    (repeat (first | refine go ?_ | with_reducible intro _))
    refine Wk.ret ?_
    exact ⟨_, Rs.tmp rfl Rs.nil, _, Sub.none _, rfl⟩
  have ha : 0 ≤ a ∧ a ≤ 200 := hr.1 (by simpa using hc)
  clear hc hr
  have qM : madE d a = 0 := by unfold madE; rw [if_neg (fun k => k he), if_neg (fun k => k ha)]
  have lO : madL d a (popI a d.fence) = popI a d.fence := by unfold madL; rw [if_pos qM]
  have lS : madL d a (stealI a) = stealI a := by unfold madL; rw [if_pos qM]
  (repeat (first | refine go ?_ | with_reducible intro _))
  refine Wk.cond rfl (fun hc => absurd hc (by simp [he])) (fun hc => ?_)
  clear hc
  (repeat (first | refine go ?_ | with_reducible intro _))
  refine Wk.call rfl rfl (Spl.none _) (rIn) rfl rfl rfl ?_
  rintro v' Z' A' hz ⟨⟨r, rfl, hr⟩, rfl, rfl⟩
  (repeat (first | refine go ?_ | with_reducible intro _))
  refine Wk.cond rfl (fun hc => ?_) (fun hc => ?_)
  · have hn : ¬ Item n := fun k => by rw [hr.2 k] at hc; cases hc
    clear hc hr
    have qP : pshE d a n = 3 := by unfold pshE; rw [if_pos ⟨qM, hn⟩]
    have lP : pshL d a n = [] := by unfold pshL; rw [qP, if_neg (by decide)]
    (repeat (first | refine go ?_ | with_reducible intro _))
    refine Wk.caser 88 rfl (fun hc => absurd hc (by simp [qP])) (fun hc => ?_)
    clear hc
    (repeat (first | refine go ?_ | with_reducible intro _))
    refine Wk.cond rfl (fun hc => absurd hc (by simp [lP])) (fun hc => ?_)
    clear hc
    (repeat (first | refine go ?_ | with_reducible intro _))
    refine Wk.caser 105 rfl (fun hc => ?_) (fun hc => absurd hc (by simp [qM]))
    clear hc
    (repeat (first | refine go ?_ | with_reducible intro _))
    refine Wk.call rfl rfl (Spl.none _) (rPop (at_ := a) ⟨ha.1, by omega⟩) rfl rfl rfl ?_
    rintro v110 Z' A' hz ⟨rfl, rfl⟩
    first | apply Wk.olFreezer (v := v110) | apply Wk.olFreeze (v := v110)
    case p => repeat (first | exact Rem.head | apply Rem.tail)
    intro Zp ep sp
    (repeat (first | refine go ?_ | with_reducible intro _))
    refine Wk.call rfl rfl (Spl.none _) (sameList (l := popI a d.fence) ((show Sl _ 6 (.slice aO (madL d a (popI a d.fence)).length cO) (popI a d.fence).length (insL (popI a d.fence)) by rw [lO] at sO' ⊢; exact sO').mono ((Ext.refl Z9).trans ep)) sp (popI_le _ _)) rfl rfl rfl ?_
    rintro v' Zq A' hzq ⟨rfl, rfl⟩
    (repeat (first | refine go ?_ | with_reducible intro _))
    refine Wk.caser 117 rfl (fun hc => ?_) (fun hc => absurd hc (by simp [qM]))
    clear hc
    (repeat (first | refine go ?_ | with_reducible intro _))
    refine Wk.call rfl rfl (Spl.none _) (rSteal (at_ := a) ⟨ha.1, by omega⟩) rfl rfl rfl ?_
    rintro v120 Z' A' hz ⟨rfl, rfl⟩
    first | apply Wk.olFreezer (v := v120) | apply Wk.olFreeze (v := v120)
    case p => repeat (first | exact Rem.head | apply Rem.tail)
    intro Zr er sr
    (repeat (first | refine go ?_ | with_reducible intro _))
    refine Wk.call rfl rfl (Spl.none _) (sameList (l := stealI a) ((show Sl _ 6 (.slice aS (madL d a (stealI a)).length cS) (stealI a).length (insL (stealI a)) by rw [lS] at sS' ⊢; exact sS').mono ((((Ext.refl Z9).trans ep).trans hzq).trans er)) sr (by rw [stealI_len]; decide)) rfl rfl rfl ?_
    rintro v' Zs A' hzs ⟨rfl, rfl⟩
    (repeat (first | refine go ?_ | with_reducible intro _))
    refine Wk.call rfl rfl (Spl.none _) ((Cz.ora rfl)) rfl rfl rfl ?_
    rintro v' Z' A' hz ⟨rfl, rfl, rfl⟩
    (repeat (first | refine go ?_ | with_reducible intro _))
    refine Wk.ret ?_
    exact ⟨_, Rs.tmp rfl Rs.nil, _, Sub.none _, rfl⟩
  · have hn : Item n := hr.1 (by simpa using hc)
    clear hc hr
    have qP : pshE d a n = 0 := by unfold pshE; rw [if_neg (fun k => k.2 hn), qM]
    have lP : pshL d a n = pushI a n := by unfold pshL; rw [if_pos qP]
    (repeat (first | refine go ?_ | with_reducible intro _))
    refine Wk.caser 95 rfl (fun hc => absurd hc (by simp [qP])) (fun hc => ?_)
    clear hc
    (repeat (first | refine go ?_ | with_reducible intro _))
    refine Wk.call rfl rfl (Spl.none _) (rPush (at_ := a) (n := n) ⟨ha.1, by omega⟩) rfl rfl rfl ?_
    rintro v99 Z' A' hz ⟨rfl, rfl⟩
    first | apply Wk.olFreezer (v := v99) | apply Wk.olFreeze (v := v99)
    case p => repeat (first | exact Rem.head | apply Rem.tail)
    intro Zx ex sx
    (repeat (first | refine go ?_ | with_reducible intro _))
    refine Wk.call rfl rfl (Spl.none _) (sameList (l := pushI a n) ((show Sl _ 6 (.slice aP (pshL d a n).length cP) (pushI a n).length (insL (pushI a n)) by rw [lP] at sP' ⊢; exact sP').mono ex) sx (by rw [pushI_len]; decide)) rfl rfl rfl ?_
    rintro v' Zy A' hzy ⟨rfl, rfl⟩
    have x10 := hzy _ _ (ex _ _ x9)
    (repeat (first | refine go ?_ | with_reducible intro _))
    refine Wk.caser 105 rfl (fun hc => ?_) (fun hc => absurd hc (by simp [qM]))
    clear hc
    (repeat (first | refine go ?_ | with_reducible intro _))
    refine Wk.call rfl rfl (Spl.none _) (rPop (at_ := a) ⟨ha.1, by omega⟩) rfl rfl rfl ?_
    rintro v110 Z' A' hz ⟨rfl, rfl⟩
    first | apply Wk.olFreezer (v := v110) | apply Wk.olFreeze (v := v110)
    case p => repeat (first | exact Rem.head | apply Rem.tail)
    intro Zp ep sp
    (repeat (first | refine go ?_ | with_reducible intro _))
    refine Wk.call rfl rfl (Spl.none _) (sameList (l := popI a d.fence) ((show Sl _ 6 (.slice aO (madL d a (popI a d.fence)).length cO) (popI a d.fence).length (insL (popI a d.fence)) by rw [lO] at sO' ⊢; exact sO').mono ((ex.trans hzy).trans ep)) sp (popI_le _ _)) rfl rfl rfl ?_
    rintro v' Zq A' hzq ⟨rfl, rfl⟩
    (repeat (first | refine go ?_ | with_reducible intro _))
    refine Wk.caser 117 rfl (fun hc => ?_) (fun hc => absurd hc (by simp [qM]))
    clear hc
    (repeat (first | refine go ?_ | with_reducible intro _))
    refine Wk.call rfl rfl (Spl.none _) (rSteal (at_ := a) ⟨ha.1, by omega⟩) rfl rfl rfl ?_
    rintro v120 Z' A' hz ⟨rfl, rfl⟩
    first | apply Wk.olFreezer (v := v120) | apply Wk.olFreeze (v := v120)
    case p => repeat (first | exact Rem.head | apply Rem.tail)
    intro Zr er sr
    (repeat (first | refine go ?_ | with_reducible intro _))
    refine Wk.call rfl rfl (Spl.none _) (sameList (l := stealI a) ((show Sl _ 6 (.slice aS (madL d a (stealI a)).length cS) (stealI a).length (insL (stealI a)) by rw [lS] at sS' ⊢; exact sS').mono ((((ex.trans hzy).trans ep).trans hzq).trans er)) sr (by rw [stealI_len]; decide)) rfl rfl rfl ?_
    rintro v' Zs A' hzs ⟨rfl, rfl⟩
    (repeat (first | refine go ?_ | with_reducible intro _))
    refine Wk.call rfl rfl (Spl.none _) ((Cz.ora rfl)) rfl rfl rfl ?_
    rintro v' Z' A' hz ⟨rfl, rfl, rfl⟩
    (repeat (first | refine go ?_ | with_reducible intro _))
    refine Wk.ret ?_
    exact ⟨_, Rs.tmp rfl Rs.nil, _, Sub.none _, rfl⟩
end Go.Proofs.J
/- The law DequeChecks, of arguments that are what their types say. -/
namespace Go.Proofs.J
open Go Go.Ev
set_option linter.unusedVariables false
set_option maxRecDepth 100000
theorem wt_int {Z : Zone} {d : Nat} {cs : List Value} (h : Wt Tryz.prog Z d 3 cs) : ∃ n, cs = [.int .i64 n] := by
  cases d with
  | zero => exact h.elim
  | succ d =>
    simp only [Wt, Tryz.underlying3] at h
    obtain ⟨n, e, _⟩ := h
    exact ⟨_, e⟩
theorem dchecks_law (Z : Zone) (xs : List Value) (h : All2 (fun a t => WtV Tryz.prog Z t a) xs [25, 3, 3]) : Cz M (.func (.func 4) #[] #[]) xs Z [] (fun v _ _ => v = .bool true) := by
  cases h with
  | cons h1 h =>
    cases h with
    | cons h2 h =>
      cases h with
      | cons h3 h =>
        cases h
        obtain ⟨⟨d, w1⟩, s1⟩ := h1
        obtain ⟨⟨d2, w2⟩, s2⟩ := h2
        obtain ⟨⟨d3, w3⟩, s3⟩ := h3
        rw [Tryz.underlying25] at s1
        rw [Tryz.underlying3] at s2 s3
        obtain ⟨⟨cs⟩, rfl⟩ := s1
        obtain ⟨q, hq⟩ := wt_deque w1
        obtain ⟨n, e2⟩ := wt_int w2
        obtain ⟨m, e3⟩ := wt_int w3
        have s2' : cellsL _ = [_] := s2
        have s3' : cellsL _ = [_] := s3
        rw [s2'] at e2
        rw [s3'] at e3
        cases e2
        cases e3
        exact DequeChecks hq
end Go.Proofs.J
