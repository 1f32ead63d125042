/- DB -/
import Derived.Test.YtokmcighnjhfjaaGreatDA
import Derived.Test.YtokmcighnjhfjaaGreatEvF
/- Rows of numbers; slices.Compact. -/
namespace Go.Proofs.J
open Go.Ev Go
set_option linter.unusedVariables false
set_option maxHeartbeats 4000000
abbrev nums (l : List Int) : List Value := l.map (Value.int .i64)
theorem ok_nums (l : List Int) : okCells (nums l) = true := by
  simp only [okCells, List.all_map, List.all_eq_true]
  intro a ha; rfl
theorem nums_append (a b : List Int) : nums (a ++ b) = nums a ++ nums b := by simp
theorem nums_get {l : List Int} {i off : Nat} (e : off = i) (h : i < l.length) : getCells (nums l) off 1 = some [.int .i64 l[i]] := by
  subst e
  unfold getCells
  rw [if_pos (by simp; omega), List.drop_eq_getElem_cons (by simpa using h)]
  simp
theorem nums_set {l : List Int} {i off : Nat} {x : Int} (e : off = i) (h : i < l.length) : setCells (nums l) off [.int .i64 x] = some (nums (l.set i x)) := by
  subst e
  unfold setCells
  rw [if_pos (by simp; omega)]
  congr 1
  simp only [nums]
  rw [List.map_set, List.set_eq_take_append_cons_drop, if_pos (by simpa using h)]
  rfl
theorem rep_nums (m : Nat) : repCells [.int .i64 0] m = nums (List.replicate m 0) := by
  induction m with
  | zero => rfl
  | succ m ih => rw [repCells, ih, List.replicate_succ]; rfl
theorem nums_clear {a : List Int} {k m off : Nat} (e : off = k) (h : k + m = a.length) : setCells (nums a) off (repCells [.int .i64 0] m) = some (nums (a.take k ++ List.replicate m 0)) := by
  subst e
  unfold setCells
  rw [rep_nums, if_pos (by simp; omega)]
  congr 1
  have : (nums a).drop (off + (nums (List.replicate m 0)).length) = [] := List.drop_eq_nil_of_le (by simp; omega)
  rw [this, List.append_nil]
  simp [List.map_take]
theorem cpt_snoc : ∀ (l : List Int) (x y : Int), cpt (l ++ [x] ++ [y]) = if x = y then cpt (l ++ [x]) else cpt (l ++ [x]) ++ [y]
  | [], x, y => by
    simp only [List.nil_append, List.cons_append, cpt]
    split
    · rename_i h; rw [h]
    · rfl
  | [z], x, y => by
    have ih := cpt_snoc [] x y
    simp only [List.nil_append, List.cons_append] at ih
    simp only [List.nil_append, List.cons_append, cpt] at ih ⊢
    by_cases h : z = x
    · simp only [h, if_true]; exact ih
    · simp only [h, if_false]
      split
      · rename_i h; rw [h]
      · rfl
  | z :: w :: r, x, y => by
    have ih := cpt_snoc (w :: r) x y
    simp only [List.cons_append] at ih ⊢
    rw [cpt, cpt, ih]
    by_cases h : z = w
    · simp only [h, if_true]
    · simp only [h, if_false]
      split <;> simp
theorem cpt_take {l : List Int} {m : Nat} (h1 : 1 ≤ m) (h : m < l.length) : cpt (l.take (m + 1)) = if l[m - 1] = l[m] then cpt (l.take m) else cpt (l.take m) ++ [l[m]] := by
  obtain ⟨j, rfl⟩ : ∃ j, m = j + 1 := ⟨m - 1, by omega⟩
  have := cpt_snoc (l.take j) l[j] l[j + 1]
  rw [← List.take_succ_eq_append_getElem (by omega), ← List.take_succ_eq_append_getElem h] at this
  exact this
theorem cpt_one (l : List Int) : cpt (l.take 1) = l.take 1 := by cases l <;> simp [cpt]
theorem abounds_lo {n cp j : Nat} (h : j ≤ n) (hc : n ≤ cp) : abounds n cp (some j) none none = some (j, n, cp) := by simp [abounds, h, hc]
theorem abounds_hi {n cp j : Nat} (h : j ≤ n) (hc : n ≤ cp) : abounds n cp none (some j) none = some (0, j, cp) := by
  have : j ≤ cp := by omega
  simp [abounds, this]
theorem compact_ {Z : Zone} {b n cp : Nat} {l : List Int} (hn : l.length = n) (h2 : 2 ≤ n) (hs : n ≤ 1000000) (hcap : n ≤ cp) :
    Cz M (.func (.func 62) #[] #[]) [.slice (some ⟨b, 0, none⟩) n cp] Z [olp b 1 (.slice (some ⟨b, 0, none⟩) n cp) n (nums l)] (fun v' Z' A' => Z = Z' ∧ A' = [ol 1 v' (cpt l).length (nums (cpt l))]) := by
  refine Cz.fn (f := Tryz.f62) (by kernel_rfl) rfl rfl rfl _ rfl ?_
  (repeat (first | refine go ?_ | with_reducible intro _))
  refine Wk.cond rfl (fun hc => ?_) (fun hc => ?_)
  · exfalso; simp at hc; omega
  (repeat (first | refine go ?_ | with_reducible intro _))
  refine Wk.loop (fun mm L Z' A' => ∃ j : Nat, 1 ≤ j ∧ j ≤ n ∧ mm = n - j ∧ Z = Z' ∧ A' = [olp b 1 (.slice (some ⟨b, 0, none⟩) n cp) n (nums l)] ∧ cpt (l.take j) = l.take j ∧ Kp L [(0, .slice (some ⟨b, 0, none⟩) n cp), (3, .int .i64 j)]) (n - 1) ⟨1, by omega, by omega, rfl, rfl, rfl, cpt_one l, (by repeat (first | exact trivial | refine And.intro rfl ?_ | refine And.intro (kpI rfl (by omega)) ?_))⟩ ?_
  rintro mm L Z' A' - ⟨j, hj1, hj, rfl, rfl, rfl, hcp, hk⟩
  refine Wk.kp hk ?_
  clear hk
  (repeat (first | refine go ?_ | with_reducible intro _))
  refine Wk.cond rfl (fun hc => ?_) (fun hc => ?_)
  · have hlt : j < n := by simp at hc; omega
    clear hc
    have hst := cpt_take (l := l) hj1 (by omega)
    (repeat (first | refine go ?_ | with_reducible intro _))
    refine Wk.drawr (ms := [0, 0, 3, 7, 0, 0, 32, 112, 240, 511]) (l := [0, 1, 2, 3, 4, 5, 6, 7, 8, 9]) (by kernel_rfl) (by kernel_rfl) (by kernel_rfl) rfl ?_
    (repeat (first | refine go ?_ | with_reducible intro _))
    refine Wk.iaV j rfl rfl rfl rfl rfl rfl rfl hlt ?_
    refine Wk.loadOlp (cs := [_]) rfl rfl (by repeat (first | exact Rem.head | apply Rem.tail)) (nums_get (i := j) (by omega) (by omega)) rfl rfl rfl ?_
    (repeat (first | refine go ?_ | with_reducible intro _))
    refine Wk.iaV (j - 1) rfl rfl rfl rfl rfl rfl (by omega) (by omega) ?_
    refine Wk.loadOlp (cs := [_]) rfl rfl (by repeat (first | exact Rem.head | apply Rem.tail)) (nums_get (i := j - 1) (by omega) (by omega)) rfl rfl rfl ?_
    (repeat (first | refine go ?_ | with_reducible intro _))
    refine Wk.cond rfl (fun hc => ?_) (fun hc => ?_)
    · have heq : l[j - 1] = l[j] := by have : l[j] = l[j - 1] := by simpa using hc
                                       exact this.symm
      clear hc
      rw [if_pos heq, hcp] at hst
      (repeat (first | refine go ?_ | with_reducible intro _))
      refine Wk.v (v := .slice (some ⟨b, 0 + j * 1, none⟩) (n - j) (cp - j)) rfl rfl rfl (Rd.sliceOlp (l := j) (h := n) (m := cp) (by repeat (first | exact Rem.head | apply Rem.tail)) rfl rfl rfl rfl rfl rfl rfl rfl rfl (abounds_lo hj hcap)) ?_
      (repeat (first | refine go ?_ | with_reducible intro _))
      refine Wk.loop (fun mm L Z' A' => ∃ (k i : Nat) (a : List Int), 1 ≤ k ∧ k ≤ n - j ∧ mm = n - j - k ∧ Z = Z' ∧ A' = [olp b 1 (.slice (some ⟨b, 0, none⟩) n cp) n (nums a)] ∧ a.length = n ∧ i + 1 ≤ j + k ∧ (∀ x, j + k ≤ x + 1 → a[x]? = l[x]?) ∧ a.take i = cpt (l.take (j + k)) ∧ Kp L [(0, .slice (some ⟨b, 0, none⟩) n cp), (3, .int .i64 i), (4, .slice (some ⟨b, 0 + j * 1, none⟩) (n - j) (cp - j)), (5, .int .i64 k)]) (n - j - 1) ⟨1, j, l, by omega, by omega, rfl, rfl, rfl, hn, by omega, fun _ _ => rfl, hst.symm, (by repeat (first | exact trivial | refine And.intro rfl ?_ | refine And.intro (kpI rfl (by omega)) ?_))⟩ ?_
      rintro mm L Z' A' - ⟨k, i, a, hk1, hk2, rfl, rfl, rfl, hal, hi, hax, hat, hk⟩
      refine Wk.kp hk ?_
      clear hk
      (repeat (first | refine go ?_ | with_reducible intro _))
      refine Wk.cond rfl (fun hc => ?_) (fun hc => ?_)
      · have hkt : k < n - j := by simp at hc; omega
        clear hc
        have e1 : a[j + k]? = l[j + k]? := hax _ (by omega)
        have e2 : a[j + k - 1]? = l[j + k - 1]? := hax _ (by omega)
        rw [List.getElem?_eq_getElem (by omega), List.getElem?_eq_getElem (by omega)] at e1 e2
        have hst2 := cpt_take (l := l) (m := j + k) (by omega) (by omega)
        rw [← Option.some.inj e1, ← Option.some.inj e2] at hst2
        (repeat (first | refine go ?_ | with_reducible intro _))
        refine Wk.drawr (ms := [0, 0, 3, 7, 0, 0, 32, 112, 240, 511]) (l := [0, 1, 2, 3, 4, 5, 6, 7, 8, 9]) (by kernel_rfl) (by kernel_rfl) (by kernel_rfl) rfl ?_
        (repeat (first | refine go ?_ | with_reducible intro _))
        refine Wk.iaV k rfl rfl rfl rfl rfl rfl rfl hkt ?_
        refine Wk.loadOlp (cs := [_]) rfl rfl (by repeat (first | exact Rem.head | apply Rem.tail)) (nums_get (i := j + k) (by omega) (by omega)) rfl rfl rfl ?_
        (repeat (first | refine go ?_ | with_reducible intro _))
        refine Wk.iaV (k - 1) rfl rfl rfl rfl rfl rfl (by omega) (by omega) ?_
        refine Wk.loadOlp (cs := [_]) rfl rfl (by repeat (first | exact Rem.head | apply Rem.tail)) (nums_get (i := j + k - 1) (by omega) (by omega)) rfl rfl rfl ?_
        (repeat (first | refine go ?_ | with_reducible intro _))
        refine Wk.cond rfl (fun hc => ?_) (fun hc => ?_)
        · have hne : ¬ a[j + k - 1] = a[j + k] := fun h => by simp [h] at hc
          clear hc
          rw [if_neg hne] at hst2
          (repeat (first | refine go ?_ | with_reducible intro _))
          refine Wk.iaV k rfl rfl rfl rfl rfl rfl rfl hkt ?_
          refine Wk.loadOlp (cs := [_]) rfl rfl (by repeat (first | exact Rem.head | apply Rem.tail)) (nums_get (i := j + k) (by omega) (by omega)) rfl rfl rfl ?_
          (repeat (first | refine go ?_ | with_reducible intro _))
          refine Wk.iaV i rfl rfl rfl rfl rfl rfl rfl (by omega) ?_
          refine Wk.storeOlp rfl rfl rfl rfl rfl (by repeat (first | exact Rem.head | apply Rem.tail)) (nums_set (i := i) (by omega) (by omega)) (by kernel_rfl) rfl ?_
          (repeat (first | refine go ?_ | with_reducible intro _))
          refine Wk.inv ⟨_, by omega, k + 1, i + 1, _, by omega, by omega, rfl, rfl, rfl, by simpa using hal, by omega, fun x hx => ?_, ?_, (by repeat (first | exact trivial | refine And.intro rfl ?_ | refine And.intro (kpI rfl (by omega)) ?_))⟩
          · rw [List.getElem?_set_ne (by omega)]; exact hax x (by omega)
          · rw [show j + (k + 1) = j + k + 1 by omega, hst2, ← hat, List.take_succ_eq_append_getElem (by simp; omega), List.take_set, List.set_eq_of_length_le (by simp; omega)]
            simp
        · have heq2 : a[j + k - 1] = a[j + k] := by have h : a[j + k] = a[j + k - 1] := by simpa using hc
                                                    exact h.symm
          clear hc
          rw [if_pos heq2] at hst2
          (repeat (first | refine go ?_ | with_reducible intro _))
          refine Wk.inv ⟨_, by omega, k + 1, i, a, by omega, by omega, rfl, rfl, rfl, hal, by omega, fun x hx => hax x (by omega), by rw [hat, ← hst2]; rfl, (by repeat (first | exact trivial | refine And.intro rfl ?_ | refine And.intro (kpI rfl (by omega)) ?_))⟩
      · have hkn : k = n - j := by simp at hc; omega
        clear hc
        have hfin : a.take i = cpt l := by rw [hat, List.take_of_length_le (by omega)]
        have hil : (cpt l).length = i := by rw [← hfin, List.length_take]; omega
        (repeat (first | refine go ?_ | with_reducible intro _))
        refine Wk.v (v := .slice (some ⟨b, 0 + i * 1, none⟩) (n - i) (cp - i)) rfl rfl rfl (Rd.sliceOlp (l := i) (h := n) (m := cp) (by repeat (first | exact Rem.head | apply Rem.tail)) rfl rfl rfl rfl rfl rfl rfl rfl rfl (abounds_lo (by omega) hcap)) ?_
        (repeat (first | refine go ?_ | with_reducible intro _))
        refine Wk.e0 rfl rfl (Ef.clearOlp rfl rfl rfl rfl rfl (by repeat (first | exact Rem.head | apply Rem.tail)) rfl (nums_clear (k := i) (by omega) (by omega)) ⟨PnAll.nil, ?_⟩)
        (repeat (first | refine go ?_ | with_reducible intro _))
        refine Wk.v (v := .slice (some ⟨b, 0 + 0 * 1, none⟩) (i - 0) (cp - 0)) rfl rfl rfl (Rd.sliceOlp (l := 0) (h := i) (m := cp) (by repeat (first | exact Rem.head | apply Rem.tail)) rfl rfl rfl rfl rfl rfl rfl rfl rfl (abounds_hi (by omega) hcap)) ?_
        (repeat (first | refine go ?_ | with_reducible intro _))
        refine Wk.alter (C := [ol 1 (.slice (some ⟨b, 0, none⟩) i cp) i ((nums (a.take i ++ List.replicate (n - i) 0)).take (i * 1))]) (by repeat (first | exact Rem.head | apply Rem.tail)) (fun s h => Sat.one (olp.short (by omega) h)) ?_
        refine Wk.ret ⟨_, Rs.tmp rfl Rs.nil, _, Sub.refl _, rfl, ?_⟩
        have e3 : (nums (a.take i ++ List.replicate (n - i) 0)).take (i * 1) = nums (cpt l) := by
          rw [Nat.mul_one, ← hfin, nums_append, List.take_append_of_le_length (by simp; omega), List.take_of_length_le (by simp; omega)]
        rw [e3, hil]
        simp [outOf]
    · have hne : ¬ l[j - 1] = l[j] := fun h => by simp [h] at hc
      clear hc
      rw [if_neg hne, hcp] at hst
      (repeat (first | refine go ?_ | with_reducible intro _))
      refine Wk.inv ⟨_, by omega, j + 1, by omega, by omega, rfl, rfl, rfl, by rw [hst, List.take_succ_eq_append_getElem (by omega)], (by repeat (first | exact trivial | refine And.intro rfl ?_ | refine And.intro (kpI rfl (by omega)) ?_))⟩
  · have hjn : j = n := by simp at hc; omega
    subst hjn
    rw [List.take_of_length_le (by omega)] at hcp
    (repeat (first | refine go ?_ | with_reducible intro _))
    refine Wk.alter (C := [ol 1 (.slice (some ⟨b, 0, none⟩) j cp) j (nums l)]) (by repeat (first | exact Rem.head | apply Rem.tail)) (fun s h => Sat.one (olp.ol h)) ?_
    refine Wk.ret ⟨_, Rs.tmp rfl Rs.nil, _, Sub.refl _, rfl, ?_⟩
    rw [hcp, hn]
    simp [outOf]
end Go.Proofs.J
/- Deques in the memory; their copies; whether they are looked at; small tests. -/
namespace Go.Proofs.J
open Go.Ev Go
set_option linter.unusedVariables false
set_option maxHeartbeats 4000000
def DqR (Z : Zone) (cs : List Value) (d : Dq) : Prop := ∃ vo vt, cs = [.int .i64 d.size, .int .i64 d.room, .bool d.fence, vo, vt] ∧ Sl Z 2 vo d.owner.length (d.owner.flatMap actC) ∧ Sl Z 1 vt d.thieves.length (nums d.thieves)
theorem DqR.mono {Z Z' : Zone} {cs : List Value} {d : Dq} (e : Ext Z Z') (h : DqR Z cs d) : DqR Z' cs d := let ⟨a, b, h1, h2, h3⟩ := h; ⟨a, b, h1, h2.mono e, h3.mono e⟩
theorem DqR.form {Z : Zone} {cs : List Value} {d : Dq} (h : DqR Z cs d) : ∃ a b c e, cs = [.int .i64 d.size, .int .i64 d.room, .bool d.fence, .slice a d.owner.length b, .slice c d.thieves.length e] ∧ Sl Z 2 (.slice a d.owner.length b) d.owner.length (d.owner.flatMap actC) ∧ Sl Z 1 (.slice c d.thieves.length e) d.thieves.length (nums d.thieves) := by
  obtain ⟨vo, vt, rfl, h1, h2⟩ := h
  obtain ⟨a, b, rfl⟩ := h1.form
  obtain ⟨c, e, rfl⟩ := h2.form
  exact ⟨a, b, c, e, rfl, h1, h2⟩
theorem copyDq {Z : Zone} {cs : List Value} {d : Dq} (h : DqR Z cs d) (ho : d.owner.length ≤ 1000) (ht : d.thieves.length ≤ 1000) :
    Cz M (.func (.func 12) #[] #[]) [.agg ⟨cs⟩] Z [] (fun v' Z' A' => (∃ cs', v' = .agg ⟨cs'⟩ ∧ DqR Z' cs' d) ∧ A' = []) := by
  obtain ⟨a, b, c, e, rfl, so, st⟩ := h.form
  refine Cz.fn (f := Tryz.f12) (by kernel_rfl) rfl rfl rfl _ rfl ?_
  (repeat (first | refine go ?_ | with_reducible intro _))
  rename_i b1 b2
  refine Wk.drawr (ms := [0, 0, 2, 7, 0, 0, 32, 127, 111, 511, 1023, 2047]) (l := [0, 1, 2, 4, 5, 6, 3, 8, 7, 9, 10, 11]) (by kernel_rfl) (by kernel_rfl) (by kernel_rfl) rfl ?_
  (repeat (first | refine go ?_ | with_reducible intro _))
  refine Wk.bs rfl rfl rfl rfl rfl rfl rfl fun b9 => ?_
  (repeat (first | refine go ?_ | with_reducible intro _))
  refine Wk.bs rfl rfl rfl rfl rfl rfl rfl fun b10 => ?_
  (repeat (first | refine go ?_ | with_reducible intro _))
  refine Wk.alterr (x := pt b9 _) (C := [ol 2 (.slice (some ⟨b9, 0, none⟩) 0 0) 0 []]) (by repeat (first | exact Rem.head | apply Rem.tail)) (fun s h => ol_of_pt (m := 0) (vs := []) (g := 0) rfl (.inl rfl) rfl h) ?_
  refine Wk.appendD rfl rfl rfl rfl rfl rfl rfl rfl Rem.head (Src.sl so) rfl (actL_ok _) (fm_len (f := actC) (k := 2) (fun _ => rfl) _) (by omega) (by omega) rfl rfl fun v12 => ⟨?_, ?_⟩
  · (repeat (first | exact PnAll.done | refine PnAll.two ?_ | refine PnAll.skip rfl ?_ | refine PnAll.keep (Rd.loadL rfl rfl (by first | exact Or.inl (by assumption) | (refine Or.inr ?_; repeat (first | exact List.Mem.head _ | refine List.Mem.tail _ ?_))) rfl rfl) (by first | exact veq_slice _ _ _ | exact veq_int _ _ | exact Sl.veq (by assumption) | simp [veq, veqL, veq1]) ?_ | refine PnAll.keep (by apply Rd.loadP (o := 0); exact rfl; exact rfl; (first | assumption | (refine Pz.mono ?_ (by assumption); assumption)); exact rfl; exact rfl) (by first | exact veq_slice _ _ _ | exact veq_int _ _ | exact Sl.veq (by assumption) | simp [veq, veqL, veq1]) ?_))
  first | apply Wk.olFreezer (v := v12) | apply Wk.olFreeze (v := v12)
  case p => repeat (first | exact Rem.head | apply Rem.tail)
  intro Z1 e1 h12
  obtain ⟨a12, c12, rfl⟩ := h12.form
  simp only [List.nil_append, Nat.zero_add] at h12
  have st1 := st.mono e1
  (repeat (first | refine go ?_ | with_reducible intro _))
  refine Wk.alterr (x := pt b10 _) (C := [ol 1 (.slice (some ⟨b10, 0, none⟩) 0 0) 0 []]) (by repeat (first | exact Rem.head | apply Rem.tail)) (fun s h => ol_of_pt (m := 0) (vs := []) (g := 0) rfl (.inl rfl) rfl h) ?_
  refine Wk.appendD rfl rfl rfl rfl rfl rfl rfl rfl Rem.head (Src.sl st1) rfl (ok_nums _) (by simp) (by omega) (by omega) rfl rfl fun v13 => ⟨?_, ?_⟩
  · (repeat (first | exact PnAll.done | refine PnAll.two ?_ | refine PnAll.skip rfl ?_ | refine PnAll.keep (Rd.loadL rfl rfl (by first | exact Or.inl (by assumption) | (refine Or.inr ?_; repeat (first | exact List.Mem.head _ | refine List.Mem.tail _ ?_))) rfl rfl) (by first | exact veq_slice _ _ _ | exact veq_int _ _ | exact Sl.veq (by assumption) | simp [veq, veqL, veq1]) ?_ | refine PnAll.keep (by apply Rd.loadP (o := 0); exact rfl; exact rfl; (first | assumption | (refine Pz.mono ?_ (by assumption); assumption)); exact rfl; exact rfl) (by first | exact veq_slice _ _ _ | exact veq_int _ _ | exact Sl.veq (by assumption) | simp [veq, veqL, veq1]) ?_))
  first | apply Wk.olFreezer (v := v13) | apply Wk.olFreeze (v := v13)
  case p => repeat (first | exact Rem.head | apply Rem.tail)
  intro Z2 e2 h13
  obtain ⟨a13, c13, rfl⟩ := h13.form
  simp only [List.nil_append, Nat.zero_add] at h13
  (repeat (first | refine go ?_ | with_reducible intro _))
  refine Wk.store rfl rfl rfl rfl rfl (by repeat (first | exact Upd.head | apply Upd.tail)) rfl (by kernel_rfl) rfl ?_
  (repeat (first | refine go ?_ | with_reducible intro _))
  refine Wk.ret ⟨_, Rs.cell rfl rfl (by first | exact Or.inl (by assumption) | (refine Or.inr ?_; repeat (first | exact List.Mem.head _ | refine List.Mem.tail _ ?_))) rfl rfl Rs.nil, _, Sub.none _, ⟨_, rfl, _, _, rfl, by simpa using h12.mono e2, by simpa using h13⟩, rfl⟩
theorem thinDq {Z : Zone} {cs : List Value} {d : Dq} (h : DqR Z cs d) :
    Cz M (.func (.func 9) #[] #[]) [.agg ⟨cs⟩] Z [] (fun v' Z' A' => Bis v' (d.owner.length ≤ 12 ∧ d.thieves.length ≤ 6) ∧ Z = Z' ∧ A' = []) := by
  obtain ⟨a, b, c, e, rfl, so, st⟩ := h.form
  refine Cz.fn (f := Tryz.f9) (by kernel_rfl) rfl rfl rfl _ rfl ?_
  (repeat (first | refine go ?_ | with_reducible intro _))
  refine Wk.caser 7 rfl (fun h1 => ?_) (fun h1 => ?_)
  · (repeat (first | refine go ?_ | with_reducible intro _))
    refine Wk.ret ⟨_, Rs.tmp rfl Rs.nil, _, Sub.none _, Bis.of (by simp at h1 ⊢; omega), rfl, rfl⟩
  · (repeat (first | refine go ?_ | with_reducible intro _))
    refine Wk.ret ⟨_, Rs.tmp rfl Rs.nil, _, Sub.none _, Bis.of (by simp at h1 ⊢; omega), rfl, rfl⟩
theorem rIn {Z : Zone} {n a b : Int} : Cz M (.func (.func 20) #[] #[]) [.int .i64 n, .int .i64 a, .int .i64 b] Z [] (fun v' Z' A' => Bis v' (a ≤ n ∧ n ≤ b) ∧ Z = Z' ∧ A' = []) := by
  refine Cz.fn (f := Tryz.f20) (by kernel_rfl) rfl rfl rfl _ rfl ?_
  (repeat (first | refine go ?_ | with_reducible intro _))
  refine Wk.caser 10 rfl (fun h1 => ?_) (fun h1 => ?_)
  · (repeat (first | refine go ?_ | with_reducible intro _))
    refine Wk.ret ⟨_, Rs.tmp rfl Rs.nil, _, Sub.none _, Bis.of (by simp at h1 ⊢; omega), rfl, rfl⟩
  · (repeat (first | refine go ?_ | with_reducible intro _))
    refine Wk.ret ⟨_, Rs.tmp rfl Rs.nil, _, Sub.none _, Bis.of (by simp at h1 ⊢; omega), rfl, rfl⟩
theorem within_ {Z : Zone} {n a b : Int} : Cz M (.func (.func 58) #[] #[]) [.int .i64 a, .int .i64 b, .int .i64 n] Z [] (fun v' Z' A' => Bis v' (a ≤ n ∧ n ≤ b) ∧ Z = Z' ∧ A' = []) := by
  refine Cz.fn (f := Tryz.f58) (by kernel_rfl) rfl rfl rfl _ rfl ?_
  (repeat (first | refine go ?_ | with_reducible intro _))
  refine Wk.caser 10 rfl (fun h1 => ?_) (fun h1 => ?_)
  · (repeat (first | refine go ?_ | with_reducible intro _))
    refine Wk.ret ⟨_, Rs.tmp rfl Rs.nil, _, Sub.none _, Bis.of (by simp at h1 ⊢; omega), rfl, rfl⟩
  · (repeat (first | refine go ?_ | with_reducible intro _))
    refine Wk.ret ⟨_, Rs.tmp rfl Rs.nil, _, Sub.none _, Bis.of (by simp at h1 ⊢; omega), rfl, rfl⟩
theorem rIsItem {Z : Zone} {n : Int} : Cz M (.func (.func 44) #[] #[]) [.int .i64 n] Z [] (fun v' Z' A' => Bis v' (Item n) ∧ Z = Z' ∧ A' = []) := by
  refine Cz.fn (f := Tryz.f44) (by kernel_rfl) rfl rfl rfl _ rfl ?_
  (repeat (first | refine go ?_ | with_reducible intro _))
  refine Wk.call rfl rfl (Spl.none _) (rIn) rfl rfl rfl ?_
  rintro v' Z' A' hz ⟨⟨b, rfl, hb⟩, rfl, rfl⟩
  (repeat (first | refine go ?_ | with_reducible intro _))
  refine Wk.ret ⟨_, Rs.tmp rfl Rs.nil, _, Sub.none _, Bis.of hb, rfl, rfl⟩
theorem isItem_ {Z : Zone} {n : Int} : Cz M (.func (.func 50) #[] #[]) [.int .i64 n] Z [] (fun v' Z' A' => Bis v' (Item n) ∧ Z = Z' ∧ A' = []) := by
  refine Cz.fn (f := Tryz.f50) (by kernel_rfl) rfl rfl rfl _ rfl ?_
  (repeat (first | refine go ?_ | with_reducible intro _))
  refine Wk.call rfl rfl (Spl.none _) (within_) rfl rfl rfl ?_
  rintro v' Z' A' hz ⟨⟨b, rfl, hb⟩, rfl, rfl⟩
  (repeat (first | refine go ?_ | with_reducible intro _))
  refine Wk.ret ⟨_, Rs.tmp rfl Rs.nil, _, Sub.none _, Bis.of hb, rfl, rfl⟩
theorem chk1_ {Z : Zone} {n : Int} : Cz M (.func (.func 55) #[] #[]) [.int .i64 n] Z [] (fun v' Z' A' => Bis v' (¬ Item n) ∧ Z = Z' ∧ A' = []) := by
  refine Cz.fn (f := Tryz.f55) (by kernel_rfl) rfl rfl rfl _ rfl ?_
  (repeat (first | refine go ?_ | with_reducible intro _))
  refine Wk.call rfl rfl (Spl.none _) (isItem_) rfl rfl rfl ?_
  rintro v' Z' A' hz ⟨⟨b, rfl, hb⟩, rfl, rfl⟩
  (repeat (first | refine go ?_ | with_reducible intro _))
  refine Wk.ret ⟨_, Rs.tmp rfl Rs.nil, _, Sub.none _, Bis.of (by rw [← hb]; simp), rfl, rfl⟩
theorem chk2_ {Z : Zone} {n : Int} : Cz M (.func (.func 57) #[] #[]) [.int .i64 n] Z [] (fun v' Z' A' => Bis v' (4 < n) ∧ Z = Z' ∧ A' = []) := by
  refine Cz.fn (f := Tryz.f57) (by kernel_rfl) rfl rfl rfl _ rfl ?_
  (repeat (first | refine go ?_ | with_reducible intro _))
  refine Wk.ret ⟨_, Rs.tmp rfl Rs.nil, _, Sub.none _, Bis.of (by simp), rfl, rfl⟩
theorem chk3_ {Z : Zone} {n : Int} : Cz M (.func (.func 59) #[] #[]) [.int .i64 n] Z [] (fun v' Z' A' => Bis v' (n < 0) ∧ Z = Z' ∧ A' = []) := by
  refine Cz.fn (f := Tryz.f59) (by kernel_rfl) rfl rfl rfl _ rfl ?_
  (repeat (first | refine go ?_ | with_reducible intro _))
  refine Wk.ret ⟨_, Rs.tmp rfl Rs.nil, _, Sub.none _, Bis.of (by simp), rfl, rfl⟩
theorem chk4_ {Z : Zone} {a : Act} : Cz M (.func (.func 61) #[] #[]) [.agg ⟨actC a⟩] Z [] (fun v' Z' A' => Bis v' (¬ (a.push = true ∨ a.n = 0)) ∧ Z = Z' ∧ A' = []) := by
  refine Cz.fn (f := Tryz.f61) (by kernel_rfl) rfl rfl rfl _ rfl ?_
  (repeat (first | refine go ?_ | with_reducible intro _))
  refine Wk.caser 6 rfl (fun h1 => ?_) (fun h1 => ?_)
  · (repeat (first | refine go ?_ | with_reducible intro _))
    refine Wk.ret ⟨_, Rs.tmp rfl Rs.nil, _, Sub.none _, Bis.of (by simp at h1 ⊢; simp [h1]), rfl, rfl⟩
  · (repeat (first | refine go ?_ | with_reducible intro _))
    refine Wk.ret ⟨_, Rs.tmp rfl Rs.nil, _, Sub.none _, Bis.of (by simp at h1 ⊢; simp [h1]), rfl, rfl⟩
end Go.Proofs.J
/- Whether something is so of an element of a row. -/
namespace Go.Proofs.J
open Go.Ev Go
set_option linter.unusedVariables false
set_option maxHeartbeats 4000000
/-- The first loop of IndexFunc, over rows that are frozen. -/
theorem indexSl {Z : Zone} {v fv : Value} {l : List Int} (p : Int → Prop) (s : Sl Z 1 v l.length (nums l)) (hs : l.length ≤ 1000000)
    (hp : ∀ x ∈ l, Cz M fv [.int .i64 x] Z [] (fun v' Z' A' => Bis v' (p x) ∧ Z = Z' ∧ A' = [])) :
    Cz M (.func (.func 118) #[] #[]) [v, fv] Z [] (fun v' Z' A' => (∃ r : Int, v' = .int .i64 r ∧ (0 ≤ r ↔ ∃ x ∈ l, p x)) ∧ Z = Z' ∧ A' = []) := by
  obtain ⟨q, c, rfl⟩ := s.form
  refine Cz.fn (f := Tryz.f118) (by kernel_rfl) rfl rfl rfl _ rfl ?_
  (repeat (first | refine go ?_ | with_reducible intro _))
  refine Wk.loop (fun mm L Z' A' => ∃ j : Nat, j ≤ l.length ∧ mm = l.length - j ∧ Z = Z' ∧ Sub A' [] ∧ (∀ i (h : i < l.length), i < j → ¬ p l[i]) ∧ Kp L [(0, .slice q l.length c), (1, fv), (6, .slice q l.length c), (7, .int .i64 l.length), (8, .int .i64 j)]) (l.length) ⟨0, Nat.zero_le _, rfl, rfl, (by repeat (first | exact Sub.none _ | exact Sub.refl _ | refine Sub.keep ?_ | refine Sub.drop ?_)), fun i h hi => by omega, (by repeat (first | exact trivial | refine And.intro rfl ?_ | refine And.intro (kpI rfl (by omega)) ?_))⟩ ?_
  rintro mm L Z' A' - ⟨j, hjj, rfl, rfl, hsub, invj, hk⟩
  refine Wk.drop hsub ?_
  refine Wk.kp hk ?_
  clear hk hsub
  (repeat (first | refine go ?_ | with_reducible intro _))
  refine Wk.cond rfl (fun hc => ?_) (fun hc => ?_)
  · have hlt : j < l.length := by simp at hc; omega
    clear hc
    (repeat (first | refine go ?_ | with_reducible intro _))
    refine Wk.call rfl rfl (Spl.none _) (hp l[j] (List.getElem_mem _)) rfl rfl rfl ?_
    rintro v' Z' A' hz ⟨⟨r, rfl, hr⟩, rfl, rfl⟩
    (repeat (first | refine go ?_ | with_reducible intro _))
    refine Wk.cond rfl (fun hc => ?_) (fun hc => ?_)
    · (repeat (first | refine go ?_ | with_reducible intro _))
      refine Wk.ret ⟨_, Rs.tmp rfl Rs.nil, _, Sub.none _, ⟨_, rfl, ⟨fun _ => ⟨_, List.getElem_mem _, hr.1 hc⟩, fun _ => by omega⟩⟩, rfl, rfl⟩
    · have hnp : ¬ p l[j] := fun h => by rw [hr.2 h] at hc; cases hc
      clear hc
      (repeat (first | refine go ?_ | with_reducible intro _))
      refine Wk.inv ⟨_, by omega, j + 1, by omega, rfl, rfl, (by repeat (first | exact Sub.none _ | exact Sub.refl _ | refine Sub.keep ?_ | refine Sub.drop ?_)), fun i h hi => ?_, (by repeat (first | exact trivial | refine And.intro rfl ?_ | refine And.intro (kpI rfl (by omega)) ?_))⟩
      by_cases e : i = j
      · subst e; exact hnp
      · exact invj i h (by omega)
  · (repeat (first | refine go ?_ | with_reducible intro _))
    refine Wk.ret ⟨_, Rs.tmp rfl Rs.nil, _, Sub.none _, ⟨_, rfl, ⟨fun h => absurd h (by decide), fun ⟨x, hx, hpx⟩ => by obtain ⟨i, hi, rfl⟩ := List.getElem_of_mem hx; exact absurd hpx (invj i hi (by simp at hc; omega))⟩⟩, rfl, rfl⟩
theorem indexOwn {Z : Zone} {b n cp : Nat} {l : List Int} {fv : Value} (p : Int → Prop) (hn : l.length = n) (hs : n ≤ 1000000)
    (hp : ∀ x ∈ l, Cz M fv [.int .i64 x] Z [] (fun v' Z' A' => Bis v' (p x) ∧ Z = Z' ∧ A' = [])) :
    Cz M (.func (.func 118) #[] #[]) [.slice (some ⟨b, 0, none⟩) n cp, fv] Z [olp b 1 (.slice (some ⟨b, 0, none⟩) n cp) n (nums l)] (fun v' Z' A' => (∃ r : Int, v' = .int .i64 r ∧ (0 ≤ r ↔ ∃ x ∈ l, p x)) ∧ Z = Z' ∧ A' = [olp b 1 (.slice (some ⟨b, 0, none⟩) n cp) n (nums l)]) := by
  refine Cz.fn (f := Tryz.f118) (by kernel_rfl) rfl rfl rfl _ rfl ?_
  (repeat (first | refine go ?_ | with_reducible intro _))
  refine Wk.loop (fun mm L Z' A' => ∃ j : Nat, j ≤ n ∧ mm = n - j ∧ Z = Z' ∧ A' = [olp b 1 (.slice (some ⟨b, 0, none⟩) n cp) n (nums l)] ∧ (∀ i (h : i < l.length), i < j → ¬ p l[i]) ∧ Kp L [(0, .slice (some ⟨b, 0, none⟩) n cp), (1, fv), (6, .slice (some ⟨b, 0, none⟩) n cp), (7, .int .i64 n), (8, .int .i64 j)]) n ⟨0, Nat.zero_le _, rfl, rfl, rfl, fun _ _ h => by omega, (by repeat (first | exact trivial | refine And.intro rfl ?_ | refine And.intro (kpI rfl (by omega)) ?_))⟩ ?_
  rintro mm L Z' A' - ⟨j, hj, rfl, rfl, rfl, hno, hk⟩
  refine Wk.kp hk ?_
  clear hk
  (repeat (first | refine go ?_ | with_reducible intro _))
  refine Wk.cond rfl (fun hc => ?_) (fun hc => ?_)
  · have hlt : j < n := by simp at hc; omega
    clear hc
    (repeat (first | refine go ?_ | with_reducible intro _))
    refine Wk.iaV j rfl rfl rfl rfl rfl rfl rfl hlt ?_
    refine Wk.loadOlp (cs := [_]) rfl rfl (by repeat (first | exact Rem.head | apply Rem.tail)) (nums_get (i := j) (by omega) (by omega)) rfl rfl rfl ?_
    (repeat (first | refine go ?_ | with_reducible intro _))
    refine Wk.call rfl rfl (Spl.none _) (hp l[j] (List.getElem_mem _)) rfl rfl rfl ?_
    rintro v' Z' A' hz ⟨⟨r, rfl, hr⟩, rfl, rfl⟩
    (repeat (first | refine go ?_ | with_reducible intro _))
    refine Wk.cond rfl (fun hc => ?_) (fun hc => ?_)
    · (repeat (first | refine go ?_ | with_reducible intro _))
      refine Wk.ret ⟨_, Rs.tmp rfl Rs.nil, _, Sub.refl _, ⟨_, rfl, ⟨fun _ => ⟨_, List.getElem_mem _, hr.1 hc⟩, fun _ => by omega⟩⟩, rfl, rfl⟩
    · have hnp : ¬ p l[j] := fun h => by rw [hr.2 h] at hc; cases hc
      clear hc
      (repeat (first | refine go ?_ | with_reducible intro _))
      refine Wk.inv ⟨_, by omega, j + 1, hlt, rfl, rfl, rfl, fun i h hi => ?_, (by repeat (first | exact trivial | refine And.intro rfl ?_ | refine And.intro (kpI rfl (by omega)) ?_))⟩
      by_cases e : i = j
      · subst e; exact hnp
      · exact hno i h (by omega)
  · have hjn : j = n := by simp at hc; omega
    (repeat (first | refine go ?_ | with_reducible intro _))
    refine Wk.ret ⟨_, Rs.tmp rfl Rs.nil, _, Sub.refl _, ⟨_, rfl, ⟨fun h => absurd h (by decide), fun ⟨x, hx, hpx⟩ => by obtain ⟨i, hi, rfl⟩ := List.getElem_of_mem hx; exact absurd hpx (hno i hi (by omega))⟩⟩, rfl, rfl⟩
theorem anySl {Z : Zone} {v fv : Value} {l : List Int} (p : Int → Prop) (s : Sl Z 1 v l.length (nums l)) (hs : l.length ≤ 1000000)
    (hp : ∀ x ∈ l, Cz M fv [.int .i64 x] Z [] (fun v' Z' A' => Bis v' (p x) ∧ Z = Z' ∧ A' = [])) :
    Cz M (.func (.func 56) #[] #[]) [v, fv] Z [] (fun v' Z' A' => Bis v' (∃ x ∈ l, p x) ∧ Z = Z' ∧ A' = []) := by
  refine Cz.fn (f := Tryz.f56) (by kernel_rfl) rfl rfl rfl _ rfl ?_
  (repeat (first | refine go ?_ | with_reducible intro _))
  refine Wk.call rfl rfl (Spl.none _) (Q1 := fun v' Z' A' => Bis v' (∃ x ∈ l, p x) ∧ Z = Z' ∧ A' = []) ?_ rfl rfl rfl ?_
  · refine Cz.fn (f := Tryz.f107) (by kernel_rfl) rfl rfl rfl _ rfl ?_
    (repeat (first | refine go ?_ | with_reducible intro _))
    refine Wk.call rfl rfl (Spl.none _) (indexSl p s hs hp) rfl rfl rfl ?_
    rintro v' Z' A' hz ⟨⟨r, rfl, hr⟩, rfl, rfl⟩
    (repeat (first | refine go ?_ | with_reducible intro _))
    refine Wk.ret ⟨_, Rs.tmp rfl Rs.nil, _, Sub.none _, Bis.of (by rw [← hr]; simp), rfl, rfl⟩
  rintro v' Z' A' hz ⟨⟨r, rfl, hr⟩, rfl, rfl⟩
  (repeat (first | refine go ?_ | with_reducible intro _))
  refine Wk.ret ⟨_, Rs.tmp rfl Rs.nil, _, Sub.none _, Bis.of hr, rfl, rfl⟩
theorem anyOwn {Z : Zone} {b n cp : Nat} {l : List Int} {fv : Value} (p : Int → Prop) (hn : l.length = n) (hs : n ≤ 1000000)
    (hp : ∀ x ∈ l, Cz M fv [.int .i64 x] Z [] (fun v' Z' A' => Bis v' (p x) ∧ Z = Z' ∧ A' = [])) :
    Cz M (.func (.func 56) #[] #[]) [.slice (some ⟨b, 0, none⟩) n cp, fv] Z [olp b 1 (.slice (some ⟨b, 0, none⟩) n cp) n (nums l)] (fun v' Z' A' => Bis v' (∃ x ∈ l, p x) ∧ Z = Z' ∧ A' = [olp b 1 (.slice (some ⟨b, 0, none⟩) n cp) n (nums l)]) := by
  refine Cz.fn (f := Tryz.f56) (by kernel_rfl) rfl rfl rfl _ rfl ?_
  (repeat (first | refine go ?_ | with_reducible intro _))
  refine Wk.call rfl rfl (.l .nil) (Q1 := fun v' Z' A' => Bis v' (∃ x ∈ l, p x) ∧ Z = Z' ∧ A' = [olp b 1 (.slice (some ⟨b, 0, none⟩) n cp) n (nums l)]) ?_ rfl rfl rfl ?_
  · refine Cz.fn (f := Tryz.f107) (by kernel_rfl) rfl rfl rfl _ rfl ?_
    (repeat (first | refine go ?_ | with_reducible intro _))
    refine Wk.call rfl rfl (.l .nil) (indexOwn p hn hs hp) rfl rfl rfl ?_
    rintro v' Z' A' hz ⟨⟨r, rfl, hr⟩, rfl, rfl⟩
    (repeat (first | refine go ?_ | with_reducible intro _))
    refine Wk.ret ⟨_, Rs.tmp rfl Rs.nil, _, Sub.refl _, Bis.of (by rw [← hr]; simp), rfl, rfl⟩
  rintro v' Z' A' hz ⟨⟨r, rfl, hr⟩, rfl, rfl⟩
  (repeat (first | refine go ?_ | with_reducible intro _))
  refine Wk.ret ⟨_, Rs.tmp rfl Rs.nil, _, Sub.refl _, Bis.of hr, rfl, rfl⟩
theorem indexAct {Z : Zone} {v fv : Value} {l : List Act} (p : Act → Prop) (s : Sl Z 2 v l.length (l.flatMap actC)) (hs : l.length ≤ 1000000)
    (hp : ∀ x ∈ l, Cz M fv [.agg ⟨actC x⟩] Z [] (fun v' Z' A' => Bis v' (p x) ∧ Z = Z' ∧ A' = [])) :
    Cz M (.func (.func 153) #[] #[]) [v, fv] Z [] (fun v' Z' A' => (∃ r : Int, v' = .int .i64 r ∧ (0 ≤ r ↔ ∃ x ∈ l, p x)) ∧ Z = Z' ∧ A' = []) := by
  obtain ⟨q, c, rfl⟩ := s.form
  refine Cz.fn (f := Tryz.f153) (by kernel_rfl) rfl rfl rfl _ rfl ?_
  (repeat (first | refine go ?_ | with_reducible intro _))
  refine Wk.loop (fun mm L Z' A' => ∃ j : Nat, j ≤ l.length ∧ mm = l.length - j ∧ Z = Z' ∧ Sub A' [] ∧ (∀ i (h : i < l.length), i < j → ¬ p l[i]) ∧ Kp L [(0, .slice q l.length c), (1, fv), (6, .slice q l.length c), (7, .int .i64 l.length), (8, .int .i64 j)]) (l.length) ⟨0, Nat.zero_le _, rfl, rfl, (by repeat (first | exact Sub.none _ | exact Sub.refl _ | refine Sub.keep ?_ | refine Sub.drop ?_)), fun i h hi => by omega, (by repeat (first | exact trivial | refine And.intro rfl ?_ | refine And.intro (kpI rfl (by omega)) ?_))⟩ ?_
  rintro mm L Z' A' - ⟨j, hjj, rfl, rfl, hsub, invj, hk⟩
  refine Wk.drop hsub ?_
  refine Wk.kp hk ?_
  clear hk hsub
  (repeat (first | refine go ?_ | with_reducible intro _))
  refine Wk.cond rfl (fun hc => ?_) (fun hc => ?_)
  · have hlt : j < l.length := by simp at hc; omega
    clear hc
    have e2 := actL_get hlt
    (repeat (first | refine go ?_ | with_reducible intro _))
    refine Wk.call rfl rfl (Spl.none _) (hp l[j] (List.getElem_mem _)) rfl rfl rfl ?_
    rintro v' Z' A' hz ⟨⟨r, rfl, hr⟩, rfl, rfl⟩
    (repeat (first | refine go ?_ | with_reducible intro _))
    refine Wk.cond rfl (fun hc => ?_) (fun hc => ?_)
    · (repeat (first | refine go ?_ | with_reducible intro _))
      refine Wk.ret ⟨_, Rs.tmp rfl Rs.nil, _, Sub.none _, ⟨_, rfl, ⟨fun _ => ⟨_, List.getElem_mem _, hr.1 hc⟩, fun _ => by omega⟩⟩, rfl, rfl⟩
    · have hnp : ¬ p l[j] := fun h => by rw [hr.2 h] at hc; cases hc
      clear hc
      (repeat (first | refine go ?_ | with_reducible intro _))
      refine Wk.inv ⟨_, by omega, j + 1, by omega, rfl, rfl, (by repeat (first | exact Sub.none _ | exact Sub.refl _ | refine Sub.keep ?_ | refine Sub.drop ?_)), fun i h hi => ?_, (by repeat (first | exact trivial | refine And.intro rfl ?_ | refine And.intro (kpI rfl (by omega)) ?_))⟩
      by_cases e : i = j
      · subst e; exact hnp
      · exact invj i h (by omega)
  · (repeat (first | refine go ?_ | with_reducible intro _))
    refine Wk.ret ⟨_, Rs.tmp rfl Rs.nil, _, Sub.none _, ⟨_, rfl, ⟨fun h => absurd h (by decide), fun ⟨x, hx, hpx⟩ => by obtain ⟨i, hi, rfl⟩ := List.getElem_of_mem hx; exact absurd hpx (invj i hi (by simp at hc; omega))⟩⟩, rfl, rfl⟩
theorem anyAct {Z : Zone} {v fv : Value} {l : List Act} (p : Act → Prop) (s : Sl Z 2 v l.length (l.flatMap actC)) (hs : l.length ≤ 1000000)
    (hp : ∀ x ∈ l, Cz M fv [.agg ⟨actC x⟩] Z [] (fun v' Z' A' => Bis v' (p x) ∧ Z = Z' ∧ A' = [])) :
    Cz M (.func (.func 60) #[] #[]) [v, fv] Z [] (fun v' Z' A' => Bis v' (∃ x ∈ l, p x) ∧ Z = Z' ∧ A' = []) := by
  refine Cz.fn (f := Tryz.f60) (by kernel_rfl) rfl rfl rfl _ rfl ?_
  (repeat (first | refine go ?_ | with_reducible intro _))
  refine Wk.call rfl rfl (Spl.none _) (Q1 := fun v' Z' A' => Bis v' (∃ x ∈ l, p x) ∧ Z = Z' ∧ A' = []) ?_ rfl rfl rfl ?_
  · refine Cz.fn (f := Tryz.f108) (by kernel_rfl) rfl rfl rfl _ rfl ?_
    (repeat (first | refine go ?_ | with_reducible intro _))
    refine Wk.call rfl rfl (Spl.none _) (indexAct p s hs hp) rfl rfl rfl ?_
    rintro v' Z' A' hz ⟨⟨r, rfl, hr⟩, rfl, rfl⟩
    (repeat (first | refine go ?_ | with_reducible intro _))
    refine Wk.ret ⟨_, Rs.tmp rfl Rs.nil, _, Sub.none _, Bis.of (by rw [← hr]; simp), rfl, rfl⟩
  rintro v' Z' A' hz ⟨⟨r, rfl, hr⟩, rfl, rfl⟩
  (repeat (first | refine go ?_ | with_reducible intro _))
  refine Wk.ret ⟨_, Rs.tmp rfl Rs.nil, _, Sub.none _, Bis.of hr, rfl, rfl⟩
end Go.Proofs.J
/- The maker of instructions. -/
namespace Go.Proofs.J
open Go.Ev Go
set_option linter.unusedVariables false
set_option maxHeartbeats 4000000
set_option maxRecDepth 100000
abbrev MkA (b : Nat) (first : Int) (v : Value) (l : List Ins) : List SA := [ol 6 v l.length (insL l), pt b (.cells [.int .i64 first, v] true 0)]
def MkQ (b : Nat) (first : Int) (l : List Ins) (Z : Zone) (Z' : Zone) (A' : List SA) : Prop := Ext Z Z' ∧ ∃ v, A' = MkA b first v l
theorem MkA.eq {b : Nat} {first : Int} {v : Value} {l l' : List Ins} (h : l = l') : MkA b first v l = MkA b first v l' := by rw [h]
theorem mAdd {Z : Zone} {b : Nat} {first : Int} {v w : Value} {l m : List Ins} (s : Sl Z 6 w m.length (insL m)) (h : l.length + m.length ≤ 100000) :
    Cz M (.func (.func 99) #[] #[]) [.pointer (some ⟨b, 0, none⟩), w] Z (MkA b first v l) (fun _ Z' A' => MkQ b first (l ++ m) Z Z' A') := by
  obtain ⟨q, c, rfl⟩ := s.form
  refine Cz.fn (f := Tryz.f99) (by kernel_rfl) rfl rfl rfl _ rfl ?_
  refine Wk.know (by repeat (first | exact Rem.head | apply Rem.tail)) (fun s h => ol.form (v := v) h) ?_
  rintro ⟨a1, c1, rfl⟩
  (repeat (first | refine go ?_ | with_reducible intro _))
  refine Wk.append rfl rfl rfl rfl rfl rfl rfl rfl (by repeat (first | exact Rem.head | apply Rem.tail)) (Src.sl s) rfl (insL_ok m) (by rw [insL_len]) (by omega) (by omega) rfl rfl rfl fun v6 => ?_
  first | refine Wk.knowr (by repeat (first | exact Rem.head | apply Rem.tail)) (fun s h => ol.form (v := v6) h) ?_ | refine Wk.know (by repeat (first | exact Rem.head | apply Rem.tail)) (fun s h => ol.form (v := v6) h) ?_
  rintro ⟨a6, c6, rfl⟩
  (repeat (first | refine go ?_ | with_reducible intro _))
  refine Wk.done ⟨_, Rs.nil, _, Sub.refl _, Ext.refl _, .slice a6 (l.length + m.length) c6, ?_⟩
  show _ = [ol 6 _ (l ++ m).length (insL (l ++ m)), _]
  rw [insL_append, List.length_append]
theorem mOne {Z : Zone} {b b2 : Nat} {first : Int} {v : Value} {l : List Ins} {i : Ins} (h2 : Z b2 = some (.cells (insC i) true 0)) (h : l.length ≤ 10000) :
    Cz M (.func (.func 99) #[] #[]) [.pointer (some ⟨b, 0, none⟩), .slice (some ⟨b2, 0, none⟩) 1 1] Z (MkA b first v l) (fun _ Z' A' => MkQ b first (l ++ [i]) Z Z' A') :=
  mAdd (m := [i]) (.inr ⟨b2, 0, 1, _, _, _, rfl, Nat.le_refl _, h2, rfl, .inl rfl⟩) (by simp; omega)
theorem mLoad {Z : Zone} {b : Nat} {first : Int} {v : Value} {l : List Ins} (r p : Int) (hf : 0 ≤ first ∧ first ≤ 100000) (h : l.length ≤ 10000) :
    Cz M (.func (.func 96) #[] #[]) (.pointer (some ⟨b, 0, none⟩) :: [.int .i64 r, .int .i64 p]) Z (MkA b first v l) (fun _ Z' A' => MkQ b first (l ++ [⟨8, r, 0, 0, 0, p⟩]) Z Z' A') := by
  refine Cz.fn (f := Tryz.f96) (by kernel_rfl) rfl rfl rfl _ rfl ?_
  (repeat (first | refine go ?_ | with_reducible intro _))
  refine Wk.bs (cs := insC ⟨8, r, 0, 0, 0, p⟩) rfl rfl rfl rfl rfl rfl rfl fun b2 => ?_
  first | refine Wk.freezer Rem.head fun Z1 e1 h2 => ?_ | refine Wk.freeze Rem.head fun Z1 e1 h2 => ?_
  (repeat (first | refine go ?_ | with_reducible intro _))
  refine Wk.call rfl rfl (.l (.l .nil)) (mOne (i := ⟨8, r, 0, 0, 0, p⟩) h2 h) rfl rfl rfl ?_
  rintro v' Z2 A' hz ⟨e2, v2, rfl⟩
  (repeat (first | refine go ?_ | with_reducible intro _))
  refine Wk.done ⟨_, Rs.nil, _, Sub.refl _, e1.trans e2, v2, rfl⟩
theorem mStore {Z : Zone} {b : Nat} {first : Int} {v : Value} {l : List Ins} (r p : Int) (hf : 0 ≤ first ∧ first ≤ 100000) (h : l.length ≤ 10000) :
    Cz M (.func (.func 100) #[] #[]) (.pointer (some ⟨b, 0, none⟩) :: [.int .i64 r, .int .i64 p]) Z (MkA b first v l) (fun _ Z' A' => MkQ b first (l ++ [⟨9, r, 0, 0, 0, p⟩]) Z Z' A') := by
  refine Cz.fn (f := Tryz.f100) (by kernel_rfl) rfl rfl rfl _ rfl ?_
  (repeat (first | refine go ?_ | with_reducible intro _))
  refine Wk.bs (cs := insC ⟨9, r, 0, 0, 0, p⟩) rfl rfl rfl rfl rfl rfl rfl fun b2 => ?_
  first | refine Wk.freezer Rem.head fun Z1 e1 h2 => ?_ | refine Wk.freeze Rem.head fun Z1 e1 h2 => ?_
  (repeat (first | refine go ?_ | with_reducible intro _))
  refine Wk.call rfl rfl (.l (.l .nil)) (mOne (i := ⟨9, r, 0, 0, 0, p⟩) h2 h) rfl rfl rfl ?_
  rintro v' Z2 A' hz ⟨e2, v2, rfl⟩
  (repeat (first | refine go ?_ | with_reducible intro _))
  refine Wk.done ⟨_, Rs.nil, _, Sub.refl _, e1.trans e2, v2, rfl⟩
theorem mCalc {Z : Zone} {b : Nat} {first : Int} {v : Value} {l : List Ins} (o r x y : Int) (hf : 0 ≤ first ∧ first ≤ 100000) (h : l.length ≤ 10000) :
    Cz M (.func (.func 97) #[] #[]) (.pointer (some ⟨b, 0, none⟩) :: [.int .u8 o, .int .i64 r, .int .i64 x, .int .i64 y]) Z (MkA b first v l) (fun _ Z' A' => MkQ b first (l ++ [⟨o, r, x, y, 0, 0⟩]) Z Z' A') := by
  refine Cz.fn (f := Tryz.f97) (by kernel_rfl) rfl rfl rfl _ rfl ?_
  (repeat (first | refine go ?_ | with_reducible intro _))
  refine Wk.bs (cs := insC ⟨o, r, x, y, 0, 0⟩) rfl rfl rfl rfl rfl rfl rfl fun b2 => ?_
  first | refine Wk.freezer Rem.head fun Z1 e1 h2 => ?_ | refine Wk.freeze Rem.head fun Z1 e1 h2 => ?_
  (repeat (first | refine go ?_ | with_reducible intro _))
  refine Wk.call rfl rfl (.l (.l .nil)) (mOne (i := ⟨o, r, x, y, 0, 0⟩) h2 h) rfl rfl rfl ?_
  rintro v' Z2 A' hz ⟨e2, v2, rfl⟩
  (repeat (first | refine go ?_ | with_reducible intro _))
  refine Wk.done ⟨_, Rs.nil, _, Sub.refl _, e1.trans e2, v2, rfl⟩
theorem mTell {Z : Zone} {b : Nat} {first : Int} {v : Value} {l : List Ins} (r : Int) (hf : 0 ≤ first ∧ first ≤ 100000) (h : l.length ≤ 10000) :
    Cz M (.func (.func 101) #[] #[]) (.pointer (some ⟨b, 0, none⟩) :: [.int .i64 r]) Z (MkA b first v l) (fun _ Z' A' => MkQ b first (l ++ [⟨15, r, 0, 0, 0, 0⟩]) Z Z' A') := by
  refine Cz.fn (f := Tryz.f101) (by kernel_rfl) rfl rfl rfl _ rfl ?_
  (repeat (first | refine go ?_ | with_reducible intro _))
  refine Wk.bs (cs := insC ⟨15, r, 0, 0, 0, 0⟩) rfl rfl rfl rfl rfl rfl rfl fun b2 => ?_
  first | refine Wk.freezer Rem.head fun Z1 e1 h2 => ?_ | refine Wk.freeze Rem.head fun Z1 e1 h2 => ?_
  (repeat (first | refine go ?_ | with_reducible intro _))
  refine Wk.call rfl rfl (.l (.l .nil)) (mOne (i := ⟨15, r, 0, 0, 0, 0⟩) h2 h) rfl rfl rfl ?_
  rintro v' Z2 A' hz ⟨e2, v2, rfl⟩
  (repeat (first | refine go ?_ | with_reducible intro _))
  refine Wk.done ⟨_, Rs.nil, _, Sub.refl _, e1.trans e2, v2, rfl⟩
theorem mBranch {Z : Zone} {b : Nat} {first : Int} {v : Value} {l : List Ins} (r t : Int) (hf : 0 ≤ first ∧ first ≤ 100000) (ht : 0 ≤ t ∧ t ≤ 1000) (h : l.length ≤ 10000) :
    Cz M (.func (.func 98) #[] #[]) (.pointer (some ⟨b, 0, none⟩) :: [.int .i64 r, .int .i64 t]) Z (MkA b first v l) (fun _ Z' A' => MkQ b first (l ++ [⟨14, r, 0, 0, 0, first + t⟩]) Z Z' A') := by
  refine Cz.fn (f := Tryz.f98) (by kernel_rfl) rfl rfl rfl _ rfl ?_
  refine Wk.know (by repeat (first | exact Rem.head | apply Rem.tail)) (fun s h => ol.form (v := v) h) ?_
  rintro ⟨a1, c1, rfl⟩
  (repeat (first | refine go ?_ | with_reducible intro _))
  refine Wk.bs (cs := insC ⟨14, r, 0, 0, 0, first + t⟩) rfl rfl rfl rfl rfl rfl rfl fun b2 => ?_
  first | refine Wk.freezer Rem.head fun Z1 e1 h2 => ?_ | refine Wk.freeze Rem.head fun Z1 e1 h2 => ?_
  (repeat (first | refine go ?_ | with_reducible intro _))
  refine Wk.call rfl rfl (.l (.l .nil)) (mOne (i := ⟨14, r, 0, 0, 0, first + t⟩) h2 h) rfl rfl rfl ?_
  rintro v' Z2 A' hz ⟨e2, v2, rfl⟩
  (repeat (first | refine go ?_ | with_reducible intro _))
  refine Wk.done ⟨_, Rs.nil, _, Sub.refl _, e1.trans e2, v2, rfl⟩
theorem mJump {Z : Zone} {b : Nat} {first : Int} {v : Value} {l : List Ins} (t : Int) (hf : 0 ≤ first ∧ first ≤ 100000) (ht : 0 ≤ t ∧ t ≤ 1000) (h : l.length ≤ 10000) :
    Cz M (.func (.func 102) #[] #[]) (.pointer (some ⟨b, 0, none⟩) :: [.int .i64 t]) Z (MkA b first v l) (fun _ Z' A' => MkQ b first (l ++ [⟨13, 0, 0, 0, 0, first + t⟩]) Z Z' A') := by
  refine Cz.fn (f := Tryz.f102) (by kernel_rfl) rfl rfl rfl _ rfl ?_
  refine Wk.know (by repeat (first | exact Rem.head | apply Rem.tail)) (fun s h => ol.form (v := v) h) ?_
  rintro ⟨a1, c1, rfl⟩
  (repeat (first | refine go ?_ | with_reducible intro _))
  refine Wk.bs (cs := insC ⟨13, 0, 0, 0, 0, first + t⟩) rfl rfl rfl rfl rfl rfl rfl fun b2 => ?_
  first | refine Wk.freezer Rem.head fun Z1 e1 h2 => ?_ | refine Wk.freeze Rem.head fun Z1 e1 h2 => ?_
  (repeat (first | refine go ?_ | with_reducible intro _))
  refine Wk.call rfl rfl (.l (.l .nil)) (mOne (i := ⟨13, 0, 0, 0, 0, first + t⟩) h2 h) rfl rfl rfl ?_
  rintro v' Z2 A' hz ⟨e2, v2, rfl⟩
  (repeat (first | refine go ?_ | with_reducible intro _))
  refine Wk.done ⟨_, Rs.nil, _, Sub.refl _, e1.trans e2, v2, rfl⟩
/-- A call of a method of the maker, in a longer one. -/
theorem mTake {Z : Zone} {b : Nat} {first : Int} {v : Value} {l : List Ins} (t : Int) (hf : 0 ≤ first ∧ first ≤ 100000) (h : l.length ≤ 9000) :
    Cz M (.func (.func 103) #[] #[]) [.pointer (some ⟨b, 0, none⟩), .int .i64 t] Z (MkA b first v l) (fun _ Z' A' => MkQ b first (l ++ [⟨4, 6, t, 8, 0, 0⟩, ⟨8, 7, 6, 0, 0, 2⟩]) Z Z' A') := by
  refine Cz.fn (f := Tryz.f103) (by kernel_rfl) rfl rfl rfl _ rfl ?_
  (repeat (first | refine go ?_ | with_reducible intro _))
  refine Wk.call rfl rfl (.l (.l .nil)) (mCalc 4 6 t 8 hf (by omega)) rfl rfl rfl ?_
  rintro v' Z1 A' hz ⟨e1, v1, rfl⟩
  (repeat (first | refine go ?_ | with_reducible intro _))
  refine Wk.bs (cs := insC ⟨8, 7, 6, 0, 0, 2⟩) rfl rfl rfl rfl rfl rfl rfl fun b2 => ?_
  first | refine Wk.freezer Rem.head fun Z2 e2 h2 => ?_ | refine Wk.freeze Rem.head fun Z2 e2 h2 => ?_
  (repeat (first | refine go ?_ | with_reducible intro _))
  refine Wk.call rfl rfl (.l (.l .nil)) (mOne (i := ⟨8, 7, 6, 0, 0, 2⟩) h2 (by simp; omega)) rfl rfl rfl ?_
  rintro v' Z3 A' hz ⟨e3, v3, rfl⟩
  (repeat (first | refine go ?_ | with_reducible intro _))
  refine Wk.done ⟨_, Rs.nil, _, Sub.refl _, (e1.trans e2).trans e3, v3, by simp⟩
theorem mAdvance {Z : Zone} {b : Nat} {first : Int} {v : Value} {l : List Ins} (hf : 0 ≤ first ∧ first ≤ 100000) (h : l.length ≤ 9000) :
    Cz M (.func (.func 104) #[] #[]) [.pointer (some ⟨b, 0, none⟩)] Z (MkA b first v l) (fun _ Z' A' => MkQ b first (l ++ [⟨2, 3, 2, 9, 0, 0⟩, ⟨10, 5, 0, 2, 3, 0⟩]) Z Z' A') := by
  refine Cz.fn (f := Tryz.f104) (by kernel_rfl) rfl rfl rfl _ rfl ?_
  (repeat (first | refine go ?_ | with_reducible intro _))
  refine Wk.call rfl rfl (.l (.l .nil)) (mCalc 2 3 2 9 hf (by omega)) rfl rfl rfl ?_
  rintro v' Z1 A' hz ⟨e1, v1, rfl⟩
  (repeat (first | refine go ?_ | with_reducible intro _))
  refine Wk.bs (cs := insC ⟨10, 5, 0, 2, 3, 0⟩) rfl rfl rfl rfl rfl rfl rfl fun b2 => ?_
  first | refine Wk.freezer Rem.head fun Z2 e2 h2 => ?_ | refine Wk.freeze Rem.head fun Z2 e2 h2 => ?_
  (repeat (first | refine go ?_ | with_reducible intro _))
  refine Wk.call rfl rfl (.l (.l .nil)) (mOne (i := ⟨10, 5, 0, 2, 3, 0⟩) h2 (by simp; omega)) rfl rfl rfl ?_
  rintro v' Z3 A' hz ⟨e3, v3, rfl⟩
  (repeat (first | refine go ?_ | with_reducible intro _))
  refine Wk.done ⟨_, Rs.nil, _, Sub.refl _, (e1.trans e2).trans e3, v3, by simp⟩
end Go.Proofs.J
/- Pushes, pops and steals of the program. -/
namespace Go.Proofs.J
open Go.Ev Go
set_option linter.unusedVariables false
set_option maxHeartbeats 4000000
set_option maxRecDepth 100000
theorem mPush {Z : Zone} {b : Nat} {first : Int} {v : Value} {l : List Ins} (n : Int) (hf : 0 ≤ first ∧ first ≤ 100000) (h : l.length ≤ 8000) :
    Cz M (.func (.func 49) #[] #[]) [.pointer (some ⟨b, 0, none⟩), .int .i64 n] Z (MkA b first v l) (fun _ Z' A' => MkQ b first (l ++ pushI first n) Z Z' A') := by
  have E := Ext.refl Z
  refine Cz.fn (f := Tryz.f49) (by kernel_rfl) rfl rfl rfl _ rfl ?_
  (repeat (first | refine go ?_ | with_reducible intro _))
  refine Wk.call rfl rfl (.l (.l .nil)) (mLoad 1 1 hf (by omega)) rfl rfl rfl ?_
  rintro v' Z1 A' hz ⟨e1, v1, rfl⟩
  have E := E.trans e1
  clear e1 hz
  (repeat (first | refine go ?_ | with_reducible intro _))
  refine Wk.call rfl rfl (.l (.l .nil)) (mLoad 2 0 hf (by simp; omega)) rfl rfl rfl ?_
  rintro v' Z1 A' hz ⟨e1, v1, rfl⟩
  have E := E.trans e1
  clear e1 hz
  (repeat (first | refine go ?_ | with_reducible intro _))
  refine Wk.call rfl rfl (.l (.l .nil)) (mCalc 3 3 1 2 hf (by simp; omega)) rfl rfl rfl ?_
  rintro v' Z1 A' hz ⟨e1, v1, rfl⟩
  have E := E.trans e1
  clear e1 hz
  (repeat (first | refine go ?_ | with_reducible intro _))
  refine Wk.call rfl rfl (.l (.l .nil)) (mCalc 6 5 8 3 hf (by simp; omega)) rfl rfl rfl ?_
  rintro v' Z1 A' hz ⟨e1, v1, rfl⟩
  have E := E.trans e1
  clear e1 hz
  (repeat (first | refine go ?_ | with_reducible intro _))
  refine Wk.call rfl rfl (.l (.l .nil)) (mBranch 5 12 hf (by omega) (by simp; omega)) rfl rfl rfl ?_
  rintro v' Z1 A' hz ⟨e1, v1, rfl⟩
  have E := E.trans e1
  clear e1 hz
  (repeat (first | refine go ?_ | with_reducible intro _))
  refine Wk.call rfl rfl (.l (.l .nil)) (mCalc 4 6 1 8 hf (by simp; omega)) rfl rfl rfl ?_
  rintro v' Z1 A' hz ⟨e1, v1, rfl⟩
  have E := E.trans e1
  clear e1 hz
  (repeat (first | refine go ?_ | with_reducible intro _))
  refine Wk.bs (cs := insL [⟨1, 7, 0, 0, 0, n⟩, ⟨9, 7, 6, 0, 0, 2⟩]) rfl rfl rfl rfl rfl rfl rfl fun b2 => ?_
  first | refine Wk.freezer Rem.head fun Z1 e1 h2 => ?_ | refine Wk.freeze Rem.head fun Z1 e1 h2 => ?_
  have E := E.trans e1
  clear e1
  (repeat (first | refine go ?_ | with_reducible intro _))
  refine Wk.call rfl rfl (.l (.l .nil)) (mAdd (m := [⟨1, 7, 0, 0, 0, n⟩, ⟨9, 7, 6, 0, 0, 2⟩]) (.inr ⟨b2, 0, _, _, _, _, rfl, Nat.le_refl _, h2, rfl, .inl rfl⟩) (by simp; omega)) rfl rfl rfl ?_
  rintro v' Z1 A' hz ⟨e1, v1, rfl⟩
  have E := E.trans e1
  clear e1 hz
  (repeat (first | refine go ?_ | with_reducible intro _))
  refine Wk.call rfl rfl (.l (.l .nil)) (mCalc 2 1 1 9 hf (by simp; omega)) rfl rfl rfl ?_
  rintro v' Z1 A' hz ⟨e1, v1, rfl⟩
  have E := E.trans e1
  clear e1 hz
  (repeat (first | refine go ?_ | with_reducible intro _))
  refine Wk.call rfl rfl (.l (.l .nil)) (mStore 1 1 hf (by simp; omega)) rfl rfl rfl ?_
  rintro v' Z1 A' hz ⟨e1, v1, rfl⟩
  have E := E.trans e1
  clear e1 hz
  (repeat (first | refine go ?_ | with_reducible intro _))
  refine Wk.call rfl rfl (.l (.l .nil)) (mTell 7 hf (by simp; omega)) rfl rfl rfl ?_
  rintro v' Z1 A' hz ⟨e1, v1, rfl⟩
  have E := E.trans e1
  clear e1 hz
  (repeat (first | refine go ?_ | with_reducible intro _))
  refine Wk.call rfl rfl (.l (.l .nil)) (mJump 14 hf (by omega) (by simp; omega)) rfl rfl rfl ?_
  rintro v' Z1 A' hz ⟨e1, v1, rfl⟩
  have E := E.trans e1
  clear e1 hz
  (repeat (first | refine go ?_ | with_reducible intro _))
  refine Wk.bs (cs := insL [⟨1, 7, 0, 0, 0, -2⟩]) rfl rfl rfl rfl rfl rfl rfl fun b2 => ?_
  first | refine Wk.freezer Rem.head fun Z1 e1 h2 => ?_ | refine Wk.freeze Rem.head fun Z1 e1 h2 => ?_
  have E := E.trans e1
  clear e1
  (repeat (first | refine go ?_ | with_reducible intro _))
  refine Wk.call rfl rfl (.l (.l .nil)) (mAdd (m := [⟨1, 7, 0, 0, 0, -2⟩]) (.inr ⟨b2, 0, _, _, _, _, rfl, Nat.le_refl _, h2, rfl, .inl rfl⟩) (by simp; omega)) rfl rfl rfl ?_
  rintro v' Z1 A' hz ⟨e1, v1, rfl⟩
  have E := E.trans e1
  clear e1 hz
  (repeat (first | refine go ?_ | with_reducible intro _))
  refine Wk.call rfl rfl (.l (.l .nil)) (mTell 7 hf (by simp; omega)) rfl rfl rfl ?_
  rintro v' Z1 A' hz ⟨e1, v1, rfl⟩
  have E := E.trans e1
  clear e1 hz
  (repeat (first | refine go ?_ | with_reducible intro _))
  refine Wk.done ⟨_, Rs.nil, _, Sub.refl _, E, v1, ?_⟩
  exact MkA.eq (by simp only [pushI, List.append_assoc, List.cons_append, List.nil_append])
theorem mSteal {Z : Zone} {b : Nat} {first : Int} {v : Value} {l : List Ins} (hf : 0 ≤ first ∧ first ≤ 100000) (h : l.length ≤ 8000) :
    Cz M (.func (.func 53) #[] #[]) [.pointer (some ⟨b, 0, none⟩)] Z (MkA b first v l) (fun _ Z' A' => MkQ b first (l ++ stealI first) Z Z' A') := by
  have E := Ext.refl Z
  refine Cz.fn (f := Tryz.f53) (by kernel_rfl) rfl rfl rfl _ rfl ?_
  (repeat (first | refine go ?_ | with_reducible intro _))
  refine Wk.call rfl rfl (.l (.l .nil)) (mLoad 2 0 hf (by omega)) rfl rfl rfl ?_
  rintro v' Z1 A' hz ⟨e1, v1, rfl⟩
  have E := E.trans e1
  clear e1 hz
  (repeat (first | refine go ?_ | with_reducible intro _))
  refine Wk.call rfl rfl (.l (.l .nil)) (mLoad 1 1 hf (by simp; omega)) rfl rfl rfl ?_
  rintro v' Z1 A' hz ⟨e1, v1, rfl⟩
  have E := E.trans e1
  clear e1 hz
  (repeat (first | refine go ?_ | with_reducible intro _))
  refine Wk.call rfl rfl (.l (.l .nil)) (mCalc 6 5 1 2 hf (by simp; omega)) rfl rfl rfl ?_
  rintro v' Z1 A' hz ⟨e1, v1, rfl⟩
  have E := E.trans e1
  clear e1 hz
  (repeat (first | refine go ?_ | with_reducible intro _))
  refine Wk.call rfl rfl (.l (.l .nil)) (mBranch 5 11 hf (by omega) (by simp; omega)) rfl rfl rfl ?_
  rintro v' Z1 A' hz ⟨e1, v1, rfl⟩
  have E := E.trans e1
  clear e1 hz
  (repeat (first | refine go ?_ | with_reducible intro _))
  refine Wk.call rfl rfl (.l (.l .nil)) (mTake 2 hf (by simp; omega)) rfl rfl rfl ?_
  rintro v' Z1 A' hz ⟨e1, v1, rfl⟩
  have E := E.trans e1
  clear e1 hz
  (repeat (first | refine go ?_ | with_reducible intro _))
  refine Wk.call rfl rfl (.l (.l .nil)) (mAdvance hf (by simp; omega)) rfl rfl rfl ?_
  rintro v' Z1 A' hz ⟨e1, v1, rfl⟩
  have E := E.trans e1
  clear e1 hz
  (repeat (first | refine go ?_ | with_reducible intro _))
  refine Wk.call rfl rfl (.l (.l .nil)) (mBranch 5 13 hf (by omega) (by simp; omega)) rfl rfl rfl ?_
  rintro v' Z1 A' hz ⟨e1, v1, rfl⟩
  have E := E.trans e1
  clear e1 hz
  (repeat (first | refine go ?_ | with_reducible intro _))
  refine Wk.call rfl rfl (.l (.l .nil)) (mTell 7 hf (by simp; omega)) rfl rfl rfl ?_
  rintro v' Z1 A' hz ⟨e1, v1, rfl⟩
  have E := E.trans e1
  clear e1 hz
  (repeat (first | refine go ?_ | with_reducible intro _))
  refine Wk.call rfl rfl (.l (.l .nil)) (mJump 15 hf (by omega) (by simp; omega)) rfl rfl rfl ?_
  rintro v' Z1 A' hz ⟨e1, v1, rfl⟩
  have E := E.trans e1
  clear e1 hz
  (repeat (first | refine go ?_ | with_reducible intro _))
  refine Wk.call rfl rfl (.l (.l .nil)) (mTell 0 hf (by simp; omega)) rfl rfl rfl ?_
  rintro v' Z1 A' hz ⟨e1, v1, rfl⟩
  have E := E.trans e1
  clear e1 hz
  (repeat (first | refine go ?_ | with_reducible intro _))
  refine Wk.call rfl rfl (.l (.l .nil)) (mJump 15 hf (by omega) (by simp; omega)) rfl rfl rfl ?_
  rintro v' Z1 A' hz ⟨e1, v1, rfl⟩
  have E := E.trans e1
  clear e1 hz
  (repeat (first | refine go ?_ | with_reducible intro _))
  refine Wk.bs (cs := insL [⟨1, 4, 0, 0, 0, -1⟩]) rfl rfl rfl rfl rfl rfl rfl fun b2 => ?_
  first | refine Wk.freezer Rem.head fun Z1 e1 h2 => ?_ | refine Wk.freeze Rem.head fun Z1 e1 h2 => ?_
  have E := E.trans e1
  clear e1
  (repeat (first | refine go ?_ | with_reducible intro _))
  refine Wk.call rfl rfl (.l (.l .nil)) (mAdd (m := [⟨1, 4, 0, 0, 0, -1⟩]) (.inr ⟨b2, 0, _, _, _, _, rfl, Nat.le_refl _, h2, rfl, .inl rfl⟩) (by simp; omega)) rfl rfl rfl ?_
  rintro v' Z1 A' hz ⟨e1, v1, rfl⟩
  have E := E.trans e1
  clear e1 hz
  (repeat (first | refine go ?_ | with_reducible intro _))
  refine Wk.call rfl rfl (.l (.l .nil)) (mTell 4 hf (by simp; omega)) rfl rfl rfl ?_
  rintro v' Z1 A' hz ⟨e1, v1, rfl⟩
  have E := E.trans e1
  clear e1 hz
  (repeat (first | refine go ?_ | with_reducible intro _))
  refine Wk.done ⟨_, Rs.nil, _, Sub.refl _, E, v1, ?_⟩
  exact MkA.eq (by simp only [stealI, List.append_assoc, List.cons_append, List.nil_append])
theorem mPop {Z : Zone} {b : Nat} {first : Int} {v : Value} {l : List Ins} (fence : Bool) (hf : 0 ≤ first ∧ first ≤ 100000) (h : l.length ≤ 8000) :
    Cz M (.func (.func 52) #[] #[]) [.pointer (some ⟨b, 0, none⟩), .bool fence] Z (MkA b first v l) (fun _ Z' A' => MkQ b first (l ++ popI first fence) Z Z' A') := by
  have E := Ext.refl Z
  cases fence with
  | true =>
    refine Cz.fn (f := Tryz.f52) (by kernel_rfl) rfl rfl rfl _ rfl ?_
    (repeat (first | refine go ?_ | with_reducible intro _))
    refine Wk.call rfl rfl (.l (.l .nil)) (mLoad 1 1 hf (by omega)) rfl rfl rfl ?_
    rintro v' Z1 A' hz ⟨e1, v1, rfl⟩
    have E := E.trans e1
    clear e1 hz
    (repeat (first | refine go ?_ | with_reducible intro _))
    refine Wk.call rfl rfl (.l (.l .nil)) (mCalc 3 1 1 9 hf (by simp; omega)) rfl rfl rfl ?_
    rintro v' Z1 A' hz ⟨e1, v1, rfl⟩
    have E := E.trans e1
    clear e1 hz
    (repeat (first | refine go ?_ | with_reducible intro _))
    refine Wk.call rfl rfl (.l (.l .nil)) (mStore 1 1 hf (by simp; omega)) rfl rfl rfl ?_
    rintro v' Z1 A' hz ⟨e1, v1, rfl⟩
    have E := E.trans e1
    clear e1 hz
    (repeat (first | refine go ?_ | with_reducible intro _))
    refine Wk.bs (cs := insL [⟨11, 0, 0, 0, 0, 0⟩]) rfl rfl rfl rfl rfl rfl rfl fun b2 => ?_
    first | refine Wk.freezer Rem.head fun Z1 e1 h2 => ?_ | refine Wk.freeze Rem.head fun Z1 e1 h2 => ?_
    have E := E.trans e1
    clear e1
    (repeat (first | refine go ?_ | with_reducible intro _))
    refine Wk.call rfl rfl (.l (.l .nil)) (mAdd (m := [⟨11, 0, 0, 0, 0, 0⟩]) (.inr ⟨b2, 0, _, _, _, _, rfl, Nat.le_refl _, h2, rfl, .inl rfl⟩) (by simp; omega)) rfl rfl rfl ?_
    rintro v' Z1 A' hz ⟨e1, v1, rfl⟩
    have E := E.trans e1
    clear e1 hz
    (repeat (first | refine go ?_ | with_reducible intro _))
    refine Wk.call rfl rfl (.l (.l .nil)) (mLoad 2 0 hf (by simp; omega)) rfl rfl rfl ?_
    rintro v' Z1 A' hz ⟨e1, v1, rfl⟩
    have E := E.trans e1
    clear e1 hz
    (repeat (first | refine go ?_ | with_reducible intro _))
    refine Wk.call rfl rfl (.l (.l .nil)) (mCalc 6 5 2 1 hf (by simp; omega)) rfl rfl rfl ?_
    rintro v' Z1 A' hz ⟨e1, v1, rfl⟩
    have E := E.trans e1
    clear e1 hz
    (repeat (first | refine go ?_ | with_reducible intro _))
    refine Wk.call rfl rfl (.l (.l .nil)) (mBranch 5 (10 - 0) hf (by omega) (by simp; omega)) rfl rfl rfl ?_
    rintro v' Z1 A' hz ⟨e1, v1, rfl⟩
    have E := E.trans e1
    clear e1 hz
    (repeat (first | refine go ?_ | with_reducible intro _))
    refine Wk.call rfl rfl (.l (.l .nil)) (mStore 2 1 hf (by simp; omega)) rfl rfl rfl ?_
    rintro v' Z1 A' hz ⟨e1, v1, rfl⟩
    have E := E.trans e1
    clear e1 hz
    (repeat (first | refine go ?_ | with_reducible intro _))
    refine Wk.call rfl rfl (.l (.l .nil)) (mTell 0 hf (by simp; omega)) rfl rfl rfl ?_
    rintro v' Z1 A' hz ⟨e1, v1, rfl⟩
    have E := E.trans e1
    clear e1 hz
    (repeat (first | refine go ?_ | with_reducible intro _))
    refine Wk.call rfl rfl (.l (.l .nil)) (mJump (21 - 0) hf (by omega) (by simp; omega)) rfl rfl rfl ?_
    rintro v' Z1 A' hz ⟨e1, v1, rfl⟩
    have E := E.trans e1
    clear e1 hz
    (repeat (first | refine go ?_ | with_reducible intro _))
    refine Wk.call rfl rfl (.l (.l .nil)) (mTake 1 hf (by simp; omega)) rfl rfl rfl ?_
    rintro v' Z1 A' hz ⟨e1, v1, rfl⟩
    have E := E.trans e1
    clear e1 hz
    (repeat (first | refine go ?_ | with_reducible intro _))
    refine Wk.call rfl rfl (.l (.l .nil)) (mCalc 7 5 1 2 hf (by simp; omega)) rfl rfl rfl ?_
    rintro v' Z1 A' hz ⟨e1, v1, rfl⟩
    have E := E.trans e1
    clear e1 hz
    (repeat (first | refine go ?_ | with_reducible intro _))
    refine Wk.call rfl rfl (.l (.l .nil)) (mBranch 5 (18 - 0) hf (by omega) (by simp; omega)) rfl rfl rfl ?_
    rintro v' Z1 A' hz ⟨e1, v1, rfl⟩
    have E := E.trans e1
    clear e1 hz
    (repeat (first | refine go ?_ | with_reducible intro _))
    refine Wk.call rfl rfl (.l (.l .nil)) (mAdvance hf (by simp; omega)) rfl rfl rfl ?_
    rintro v' Z1 A' hz ⟨e1, v1, rfl⟩
    have E := E.trans e1
    clear e1 hz
    (repeat (first | refine go ?_ | with_reducible intro _))
    refine Wk.call rfl rfl (.l (.l .nil)) (mStore 3 1 hf (by simp; omega)) rfl rfl rfl ?_
    rintro v' Z1 A' hz ⟨e1, v1, rfl⟩
    have E := E.trans e1
    clear e1 hz
    (repeat (first | refine go ?_ | with_reducible intro _))
    refine Wk.call rfl rfl (.l (.l .nil)) (mBranch 5 (20 - 0) hf (by omega) (by simp; omega)) rfl rfl rfl ?_
    rintro v' Z1 A' hz ⟨e1, v1, rfl⟩
    have E := E.trans e1
    clear e1 hz
    (repeat (first | refine go ?_ | with_reducible intro _))
    refine Wk.call rfl rfl (.l (.l .nil)) (mTell 7 hf (by simp; omega)) rfl rfl rfl ?_
    rintro v' Z1 A' hz ⟨e1, v1, rfl⟩
    have E := E.trans e1
    clear e1 hz
    (repeat (first | refine go ?_ | with_reducible intro _))
    refine Wk.call rfl rfl (.l (.l .nil)) (mJump (21 - 0) hf (by omega) (by simp; omega)) rfl rfl rfl ?_
    rintro v' Z1 A' hz ⟨e1, v1, rfl⟩
    have E := E.trans e1
    clear e1 hz
    (repeat (first | refine go ?_ | with_reducible intro _))
    refine Wk.call rfl rfl (.l (.l .nil)) (mTell 0 hf (by simp; omega)) rfl rfl rfl ?_
    rintro v' Z1 A' hz ⟨e1, v1, rfl⟩
    have E := E.trans e1
    clear e1 hz
    (repeat (first | refine go ?_ | with_reducible intro _))
    refine Wk.done ⟨_, Rs.nil, _, Sub.refl _, E, v1, ?_⟩
    exact MkA.eq (by simp only [popI, popH, popT, if_true, Int.sub_zero, List.append_assoc, List.cons_append, List.nil_append])
  | false =>
    refine Cz.fn (f := Tryz.f52) (by kernel_rfl) rfl rfl rfl _ rfl ?_
    (repeat (first | refine go ?_ | with_reducible intro _))
    refine Wk.call rfl rfl (.l (.l .nil)) (mLoad 1 1 hf (by omega)) rfl rfl rfl ?_
    rintro v' Z1 A' hz ⟨e1, v1, rfl⟩
    have E := E.trans e1
    clear e1 hz
    (repeat (first | refine go ?_ | with_reducible intro _))
    refine Wk.call rfl rfl (.l (.l .nil)) (mCalc 3 1 1 9 hf (by simp; omega)) rfl rfl rfl ?_
    rintro v' Z1 A' hz ⟨e1, v1, rfl⟩
    have E := E.trans e1
    clear e1 hz
    (repeat (first | refine go ?_ | with_reducible intro _))
    refine Wk.call rfl rfl (.l (.l .nil)) (mStore 1 1 hf (by simp; omega)) rfl rfl rfl ?_
    rintro v' Z1 A' hz ⟨e1, v1, rfl⟩
    have E := E.trans e1
    clear e1 hz
    (repeat (first | refine go ?_ | with_reducible intro _))
    refine Wk.call rfl rfl (.l (.l .nil)) (mLoad 2 0 hf (by simp; omega)) rfl rfl rfl ?_
    rintro v' Z1 A' hz ⟨e1, v1, rfl⟩
    have E := E.trans e1
    clear e1 hz
    (repeat (first | refine go ?_ | with_reducible intro _))
    refine Wk.call rfl rfl (.l (.l .nil)) (mCalc 6 5 2 1 hf (by simp; omega)) rfl rfl rfl ?_
    rintro v' Z1 A' hz ⟨e1, v1, rfl⟩
    have E := E.trans e1
    clear e1 hz
    (repeat (first | refine go ?_ | with_reducible intro _))
    refine Wk.call rfl rfl (.l (.l .nil)) (mBranch 5 (10 - 1) hf (by omega) (by simp; omega)) rfl rfl rfl ?_
    rintro v' Z1 A' hz ⟨e1, v1, rfl⟩
    have E := E.trans e1
    clear e1 hz
    (repeat (first | refine go ?_ | with_reducible intro _))
    refine Wk.call rfl rfl (.l (.l .nil)) (mStore 2 1 hf (by simp; omega)) rfl rfl rfl ?_
    rintro v' Z1 A' hz ⟨e1, v1, rfl⟩
    have E := E.trans e1
    clear e1 hz
    (repeat (first | refine go ?_ | with_reducible intro _))
    refine Wk.call rfl rfl (.l (.l .nil)) (mTell 0 hf (by simp; omega)) rfl rfl rfl ?_
    rintro v' Z1 A' hz ⟨e1, v1, rfl⟩
    have E := E.trans e1
    clear e1 hz
    (repeat (first | refine go ?_ | with_reducible intro _))
    refine Wk.call rfl rfl (.l (.l .nil)) (mJump (21 - 1) hf (by omega) (by simp; omega)) rfl rfl rfl ?_
    rintro v' Z1 A' hz ⟨e1, v1, rfl⟩
    have E := E.trans e1
    clear e1 hz
    (repeat (first | refine go ?_ | with_reducible intro _))
    refine Wk.call rfl rfl (.l (.l .nil)) (mTake 1 hf (by simp; omega)) rfl rfl rfl ?_
    rintro v' Z1 A' hz ⟨e1, v1, rfl⟩
    have E := E.trans e1
    clear e1 hz
    (repeat (first | refine go ?_ | with_reducible intro _))
    refine Wk.call rfl rfl (.l (.l .nil)) (mCalc 7 5 1 2 hf (by simp; omega)) rfl rfl rfl ?_
    rintro v' Z1 A' hz ⟨e1, v1, rfl⟩
    have E := E.trans e1
    clear e1 hz
    (repeat (first | refine go ?_ | with_reducible intro _))
    refine Wk.call rfl rfl (.l (.l .nil)) (mBranch 5 (18 - 1) hf (by omega) (by simp; omega)) rfl rfl rfl ?_
    rintro v' Z1 A' hz ⟨e1, v1, rfl⟩
    have E := E.trans e1
    clear e1 hz
    (repeat (first | refine go ?_ | with_reducible intro _))
    refine Wk.call rfl rfl (.l (.l .nil)) (mAdvance hf (by simp; omega)) rfl rfl rfl ?_
    rintro v' Z1 A' hz ⟨e1, v1, rfl⟩
    have E := E.trans e1
    clear e1 hz
    (repeat (first | refine go ?_ | with_reducible intro _))
    refine Wk.call rfl rfl (.l (.l .nil)) (mStore 3 1 hf (by simp; omega)) rfl rfl rfl ?_
    rintro v' Z1 A' hz ⟨e1, v1, rfl⟩
    have E := E.trans e1
    clear e1 hz
    (repeat (first | refine go ?_ | with_reducible intro _))
    refine Wk.call rfl rfl (.l (.l .nil)) (mBranch 5 (20 - 1) hf (by omega) (by simp; omega)) rfl rfl rfl ?_
    rintro v' Z1 A' hz ⟨e1, v1, rfl⟩
    have E := E.trans e1
    clear e1 hz
    (repeat (first | refine go ?_ | with_reducible intro _))
    refine Wk.call rfl rfl (.l (.l .nil)) (mTell 7 hf (by simp; omega)) rfl rfl rfl ?_
    rintro v' Z1 A' hz ⟨e1, v1, rfl⟩
    have E := E.trans e1
    clear e1 hz
    (repeat (first | refine go ?_ | with_reducible intro _))
    refine Wk.call rfl rfl (.l (.l .nil)) (mJump (21 - 1) hf (by omega) (by simp; omega)) rfl rfl rfl ?_
    rintro v' Z1 A' hz ⟨e1, v1, rfl⟩
    have E := E.trans e1
    clear e1 hz
    (repeat (first | refine go ?_ | with_reducible intro _))
    refine Wk.call rfl rfl (.l (.l .nil)) (mTell 0 hf (by simp; omega)) rfl rfl rfl ?_
    rintro v' Z1 A' hz ⟨e1, v1, rfl⟩
    have E := E.trans e1
    clear e1 hz
    (repeat (first | refine go ?_ | with_reducible intro _))
    refine Wk.done ⟨_, Rs.nil, _, Sub.refl _, E, v1, ?_⟩
    have q1 : first - 1 + 10 = first + (10 - 1) := by omega
    have q2 : first - 1 + 21 = first + (21 - 1) := by omega
    have q3 : first - 1 + 18 = first + (18 - 1) := by omega
    have q4 : first - 1 + 20 = first + (20 - 1) := by omega
    exact MkA.eq (by simp only [popI, popH, popT, q1, q2, q3, q4, Bool.false_eq_true, if_false, List.append_assoc, List.cons_append, List.nil_append])
end Go.Proofs.J
/- Threads, and the program of a deque. -/
namespace Go.Proofs.J
open Go.Ev Go
set_option linter.unusedVariables false
set_option maxHeartbeats 4000000
set_option maxRecDepth 100000
/-- A function that makes an act, by its number. -/
def ActF (Z : Zone) (fv : Value) (many : Nat) (f : Int → Nat → List Ins) : Prop :=
  ∀ (i : Nat) (Z' : Zone) (b : Nat) (first : Int), i < many → Ext Z Z' → 0 ≤ first ∧ first ≤ 100000 →
    Cz M fv [.pointer (some ⟨b, 0, none⟩), .int .i64 i] Z' (MkA b first (.slice none 0 0) []) (fun _ Z'' A' => MkQ b first (f first i) Z' Z'' A')
theorem thread_ {Z : Zone} {cs : List Value} {d : Dq} {fv : Value} {m : Int} {f : Int → Nat → List Ins} (h : DqR Z cs d) (hm : m ≤ 1000) (hk : ∀ a i, (f a i).length ≤ 30) (hf : ActF Z fv m.toNat f) :
    Cz M (.func (.func 92) #[] #[]) [.agg ⟨cs⟩, .int .i64 m, fv] Z [] (fun v' Z' A' => A' = [ol 6 v' (thrI d.size f m.toNat).length (insL (thrI d.size f m.toNat))]) := by
  obtain ⟨a, b, c, e, rfl, so, st⟩ := h.form
  refine Cz.fn (f := Tryz.f92) (by kernel_rfl) rfl rfl rfl _ rfl ?_
  (repeat (first | refine go ?_ | with_reducible intro _))
  refine Wk.bs (cs := insL [⟨1, 8, 0, 0, 0, d.size⟩, ⟨1, 9, 0, 0, 0, 1⟩]) rfl rfl rfl rfl rfl rfl rfl fun b7 => ?_
  (repeat (first | refine go ?_ | with_reducible intro _))
  refine Wk.alter (x := pt b7 _) (C := [ol 6 (.slice (some ⟨b7, 0, none⟩) 2 2) 2 (insL [⟨1, 8, 0, 0, 0, d.size⟩, ⟨1, 9, 0, 0, 0, 1⟩])]) (by repeat (first | exact Rem.head | apply Rem.tail)) (fun s h => ol_of_pt (m := 2) (g := 0) rfl (.inl rfl) rfl h) ?_
  refine Wk.drop (B := [_]) (.keep (Sub.none _)) ?_
  refine Wk.loop (fun mm L Z' A' => ∃ (j : Nat) (v7 : Value), j ≤ m.toNat ∧ mm = m.toNat - j ∧ Ext Z Z' ∧ A' = [ol 6 v7 (thrI d.size f j).length (insL (thrI d.size f j))] ∧ Kp L [(2, fv), (7, v7), (15, .int .i64 m), (16, .int .i64 j)]) m.toNat ⟨0, .slice (some ⟨b7, 0, none⟩) 2 2, Nat.zero_le _, rfl, Ext.refl _, rfl, (by repeat (first | exact trivial | refine And.intro rfl ?_ | refine And.intro (kpI rfl (by omega)) ?_))⟩ ?_
  rintro mm L Z1 A' - ⟨j, v7, hj, rfl, hz, rfl, hkp⟩
  refine Wk.kp hkp ?_
  clear hkp
  refine Wk.know (by repeat (first | exact Rem.head | apply Rem.tail)) (fun s h => ol.form (v := v7) h) ?_
  rintro ⟨a7, c7, rfl⟩
  (repeat (first | refine go ?_ | with_reducible intro _))
  refine Wk.cond rfl (fun hc => ?_) (fun hc => ?_)
  · have hlt : j < m.toNat := by simp at hc; omega
    clear hc
    have hlen := thrI_len hk j (size := d.size)
    have hf2 := hk (thrI d.size f j).length j
    (repeat (first | refine go ?_ | with_reducible intro _))
    rename_i b22
    refine Wk.olNilr 6 ?_
    refine Wk.call rfl rfl (.l (.l (.r .nil))) (hf j Z1 b22 (thrI d.size f j).length hlt hz (by omega)) rfl rfl rfl ?_
    rintro v' Z2 A' hz2 ⟨e2, v2, rfl⟩
    first | refine Wk.knowr (by repeat (first | exact Rem.head | apply Rem.tail)) (fun s h => ol.form (v := v2) h) ?_ | refine Wk.know (by repeat (first | exact Rem.head | apply Rem.tail)) (fun s h => ol.form (v := v2) h) ?_
    rintro ⟨a2, c2, rfl⟩
    (repeat (first | refine go ?_ | with_reducible intro _))
    refine Wk.append rfl rfl rfl rfl rfl rfl rfl rfl (by repeat (first | exact Rem.head | apply Rem.tail)) (Src.ol (by repeat (first | exact Rem.head | apply Rem.tail))) rfl (insL_ok _) (by rw [insL_len]) (by omega) (by omega) rfl rfl rfl fun v6 => ?_
    refine Wk.dropr (B := [_]) (.keep (Sub.none _)) ?_
    (repeat (first | refine go ?_ | with_reducible intro _))
    refine Wk.inv ⟨_, by omega, j + 1, v6, hlt, rfl, hz.trans e2, ?_, (by repeat (first | exact trivial | refine And.intro rfl ?_ | refine And.intro (kpI rfl (by omega)) ?_))⟩
    rw [thrI, insL_append, List.length_append]
  · have hjm : j = m.toNat := by simp at hc; omega
    subst hjm
    (repeat (first | refine go ?_ | with_reducible intro _))
    refine Wk.ret ⟨_, Rs.tmp rfl Rs.nil, _, Sub.refl _, rfl⟩
/-- The acts of the owner, out of the deque in its box. -/
theorem ownF {Z : Zone} {cs : List Value} {d : Dq} {b0 : Nat} (h : DqR Z cs d) (h0 : Z b0 = some (.cells cs true 0)) (ho : d.owner.length ≤ 1000) :
    ActF Z (.func (.func 93) #[] ⟨[.pointer (some ⟨b0, 0, none⟩)]⟩) d.owner.length (actI d.fence d.owner) := by
  obtain ⟨a, b, c, e, rfl, so, st⟩ := h.form
  intro i Z' bm first hi hz hf
  have so1 := so.mono hz
  have h01 := hz _ _ h0
  have e2 := actL_get hi
  refine Cz.fn (f := Tryz.f93) (by kernel_rfl) rfl rfl rfl _ rfl ?_
  (repeat (first | refine go ?_ | with_reducible intro _))
  refine Wk.cond rfl (fun hc => ?_) (fun hc => ?_)
  · (repeat (first | refine go ?_ | with_reducible intro _))
    refine Wk.call rfl rfl (.r (.l (.l .nil))) (mPush (l := []) d.owner[i].n hf (Nat.zero_le _)) rfl rfl rfl ?_
    rintro v' Z2 A' hz2 ⟨e3, v2, rfl⟩
    (repeat (first | refine go ?_ | with_reducible intro _))
    refine Wk.done ⟨_, Rs.nil, _, .keep (.keep (Sub.none _)), e3, v2, ?_⟩
    exact MkA.eq (by rw [actI_get hi, if_pos hc]; rfl)
  · (repeat (first | refine go ?_ | with_reducible intro _))
    refine Wk.call rfl rfl (.r (.l (.l .nil))) (mPop (l := []) d.fence hf (Nat.zero_le _)) rfl rfl rfl ?_
    rintro v' Z2 A' hz2 ⟨e3, v2, rfl⟩
    (repeat (first | refine go ?_ | with_reducible intro _))
    refine Wk.done ⟨_, Rs.nil, _, .keep (.keep (Sub.none _)), e3, v2, ?_⟩
    exact MkA.eq (by rw [actI_get hi, if_neg (by simpa using hc)]; rfl)
theorem stealF {Z : Zone} {m : Nat} : ActF Z (.func (.func 94) #[] #[]) m (fun a _ => stealI a) := by
  intro i Z' bm first hi hz hf
  refine Cz.fn (f := Tryz.f94) (by kernel_rfl) rfl rfl rfl _ rfl ?_
  (repeat (first | refine go ?_ | with_reducible intro _))
  refine Wk.call rfl rfl (.l (.l .nil)) (mSteal (l := []) hf (Nat.zero_le _)) rfl rfl rfl ?_
  rintro v' Z2 A' hz2 ⟨e3, v2, rfl⟩
  (repeat (first | refine go ?_ | with_reducible intro _))
  refine Wk.done ⟨_, Rs.nil, _, Sub.refl _, e3, v2, rfl⟩
end Go.Proofs.J
/- The program of a deque, by the program. -/
namespace Go.Proofs.J
open Go.Ev Go
set_option linter.unusedVariables false
set_option maxHeartbeats 4000000
set_option maxRecDepth 100000
/-- Rows of instructions; a program in the memory. -/
def Iss (Z : Zone) (v : Value) (ts : List (List Ins)) : Prop := ∃ us, Sl Z 1 v ts.length us ∧ All2 (fun u t => Sl Z 6 u t.length (insL t)) us ts
theorem Iss.mono {Z Z' : Zone} {v : Value} {ts : List (List Ins)} (e : Ext Z Z') (h : Iss Z v ts) : Iss Z' v ts := let ⟨us, h1, h2⟩ := h; ⟨us, h1.mono e, h2.mono fun _ _ q => q.mono e⟩
def WkR (Z : Zone) (cs : List Value) (words : List Int) (ts : List (List Ins)) (room : Int) : Prop := ∃ vw vt, cs = [vw, vt, .int .i64 room] ∧ Sl Z 1 vw words.length (nums words) ∧ Iss Z vt ts
theorem WkR.mono {Z Z' : Zone} {cs : List Value} {w : List Int} {ts : List (List Ins)} {r : Int} (e : Ext Z Z') (h : WkR Z cs w ts r) : WkR Z' cs w ts r := let ⟨a, b, h1, h2, h3⟩ := h; ⟨a, b, h1, h2.mono e, h3.mono e⟩
theorem WkR.form {Z : Zone} {cs : List Value} {w : List Int} {ts : List (List Ins)} {r : Int} (h : WkR Z cs w ts r) : ∃ a b c e us, cs = [.slice a w.length b, .slice c ts.length e, .int .i64 r] ∧ Sl Z 1 (.slice a w.length b) w.length (nums w) ∧ Sl Z 1 (.slice c ts.length e) ts.length us ∧ All2 (fun u t => Sl Z 6 u t.length (insL t)) us ts := by
  obtain ⟨vw, vt, rfl, h1, us, h2, h3⟩ := h
  obtain ⟨a, b, rfl⟩ := h1.form
  obtain ⟨c, e, rfl⟩ := h2.form
  exact ⟨a, b, c, e, us, rfl, h1, h2, h3⟩
theorem zeros_sl {Z : Zone} {b k : Nat} (h : Z b = some (.cells (repCells [.int .i64 0] k) true 0)) : Sl Z 1 (.slice (some ⟨b, 0, none⟩) k k) (List.replicate k (0 : Int)).length (nums (List.replicate k (0 : Int))) := by
  rw [rep_nums] at h
  rw [List.length_replicate]
  exact Sl.ofAll h (by simp) (.inl rfl)
theorem program_ {Z : Zone} {cs : List Value} {d : Dq} (h : DqR Z cs d) (ok : d.Ok) :
    Cz M (.func (.func 43) #[] #[]) [.agg ⟨cs⟩] Z [] (fun v' Z' A' => (∃ cs', v' = .agg ⟨cs'⟩ ∧ WkR Z' cs' (List.replicate (2 + d.size.toNat) 0) (progI d) d.room) ∧ A' = []) := by
  have hD := h
  obtain ⟨a, b, c, e, rfl, so, st⟩ := h.form
  have hsz := ok.rng.1
  have ho := ok.lim.1
  have ht := ok.lim.2.1
  have htm := ok.lim.2.2
  refine Cz.fn (f := Tryz.f43) (by kernel_rfl) rfl rfl rfl _ rfl ?_
  (repeat (first | refine go ?_ | with_reducible intro _))
  rename_i b1 b2
  refine Wk.freeze (Rem.tail Rem.head) fun Z1 e1 h1 => ?_
  have so1 := so.mono e1
  have st1 := st.mono e1
  have hD1 := hD.mono e1
  refine Wk.drawr (ms := [0, 1, 3, 7, 0, 16, 63, 0, 255]) (l := [0, 1, 2, 3, 4, 5, 6, 7, 8]) (by kernel_rfl) (by kernel_rfl) (by kernel_rfl) rfl ?_
  (repeat (first | refine go ?_ | with_reducible intro _))
  refine Wk.mks (2 + d.size.toNat) (2 + d.size.toNat) rfl rfl rfl rfl rfl rfl (by omega) (by omega) (Nat.le_refl _) (by show 8 * (2 + d.size.toNat) ≤ _; omega) (by omega) fun b9 => ?_
  (repeat (first | refine go ?_ | with_reducible intro _))
  rename_i b3
  refine Wk.store rfl rfl rfl rfl rfl (by repeat (first | exact Upd.head | apply Upd.tail)) rfl (by kernel_rfl) rfl ?_
  (repeat (first | refine go ?_ | with_reducible intro _))
  refine Wk.freeze (Rem.tail Rem.head) fun Z2 e2 h9 => ?_
  have sw := zeros_sl h9
  have h2 := e2 _ _ h1
  refine Wk.drawr (ms := [0, 1, 0, 0, 8, 24, 0, 124, 252, 511, 1023, 2047]) (l := [0, 1, 2, 3, 4, 5, 6, 7, 8, 9, 10, 11]) (by kernel_rfl) (by kernel_rfl) (by kernel_rfl) rfl ?_
  (repeat (first | refine go ?_ | with_reducible intro _))
  have hth := thread_ (m := d.owner.length) (hD1.mono e2) (by omega) (fun a i => Nat.le_trans (actI_len a i) (by omega)) (ownF (hD1.mono e2) h2 (by omega))
  rw [Int.toNat_natCast, show thrI d.size (fun a i => actI d.fence d.owner a i) d.owner.length = ownI d from rfl] at hth
  refine Wk.callD rfl rfl (Spl.none _) hth rfl rfl fun v20 Z3 A' hz3 hq => ?_
  obtain rfl := hq
  refine ⟨?_, ?_⟩
  · (repeat (first | exact PnAll.done | refine PnAll.two ?_ | refine PnAll.skip rfl ?_ | refine PnAll.keep (Rd.loadL rfl rfl (by first | exact Or.inl (by assumption) | (refine Or.inr ?_; repeat (first | exact List.Mem.head _ | refine List.Mem.tail _ ?_))) rfl rfl) (by first | exact veq_slice _ _ _ | exact veq_int _ _ | exact Sl.veq (by assumption) | simp [veq, veqL, veq1]) ?_ | refine PnAll.keep (by apply Rd.loadP (o := 0); exact rfl; exact rfl; (first | assumption | (refine Pz.mono ?_ (by assumption); assumption)); exact rfl; exact rfl) (by first | exact veq_slice _ _ _ | exact veq_int _ _ | exact Sl.veq (by assumption) | simp [veq, veqL, veq1]) ?_))
  first | apply Wk.olFreezer (v := v20) | apply Wk.olFreeze (v := v20)
  case p => repeat (first | exact Rem.head | apply Rem.tail)
  intro Z4 e4 s20
  obtain ⟨a20, c20, rfl⟩ := s20.form
  have hz4 := (e2.trans hz3).trans e4
  have st4 := st1.mono hz4
  have hD4 := hD1.mono hz4
  have h4 := hz4 _ _ h1
  have sw4 := sw.mono (hz3.trans e4)
  (repeat (first | refine go ?_ | with_reducible intro _))
  refine Wk.bs (cs := [.slice a20 _ c20]) rfl rfl rfl rfl rfl rfl rfl fun b21 => ?_
  refine Wk.olNilr 1 ?_
  refine Wk.append (kk := 1) (new := [.slice a20 _ c20]) rfl rfl rfl rfl rfl rfl rfl rfl (by repeat (first | exact Rem.head | apply Rem.tail)) (Src.lit (by first | exact Or.inl (by assumption) | (refine Or.inr ?_; repeat (first | exact List.Mem.head _ | refine List.Mem.tail _ ?_))) rfl) rfl rfl rfl (by omega) (by omega) (by kernel_rfl) rfl rfl fun v22 => ?_
  refine Wk.dropr (.keep (.drop (Sub.refl _))) ?_
  first | refine Wk.knowr (by repeat (first | exact Rem.head | apply Rem.tail)) (fun s h => ol.form (v := v22) h) ?_ | refine Wk.know (by repeat (first | exact Rem.head | apply Rem.tail)) (fun s h => ol.form (v := v22) h) ?_
  rintro ⟨a22, c22, rfl⟩
  (repeat (first | refine go ?_ | with_reducible intro _))
  refine Wk.loop (fun mm L Z' A' => ∃ (j : Nat) (v : Value) (us : List Value), j ≤ d.thieves.length ∧ mm = d.thieves.length - j ∧ Ext Z4 Z' ∧ A' = [ol 1 v (j + 1) us, pt b3 (.cells [.slice (some ⟨b9, 0, none⟩) (2 + d.size.toNat) (2 + d.size.toNat), v, .int .i64 d.room] true 0), pt b2 (.cells [.slice none 0 0, .slice none 0 0, .int .i64 0] true 0)] ∧ All2 (fun u t => Sl Z' 6 u t.length (insL t)) us (ownI d :: (d.thieves.take j).map (thiefI d)) ∧ Kp L [(1, .pointer (some ⟨b1, 0, none⟩)), (2, .pointer (some ⟨b2, 0, none⟩)), (3, .pointer (some ⟨b3, 0, none⟩)), (25, .slice c d.thieves.length e), (26, .int .i64 d.thieves.length), (27, .int .i64 j)]) d.thieves.length ⟨0, .slice a22 (0 + 1) c22, _, Nat.zero_le _, rfl, Ext.refl _, rfl, .cons s20 .nil, (by repeat (first | exact trivial | refine And.intro rfl ?_ | refine And.intro (kpI rfl (by omega)) ?_))⟩ ?_
  rintro mm L Z5 A' - ⟨j, v, us, hj, rfl, hz5, rfl, hus, hk⟩
  refine Wk.kp hk ?_
  clear hk
  refine Wk.know (by repeat (first | exact Rem.head | apply Rem.tail)) (fun s h => ol.form (v := v) h) ?_
  rintro ⟨aT, cT, rfl⟩
  have st5 := st4.mono hz5
  have hD5 := hD4.mono hz5
  have h5 := hz5 _ _ h4
  (repeat (first | refine go ?_ | with_reducible intro _))
  refine Wk.cond rfl (fun hc => ?_) (fun hc => ?_)
  · have hlt : j < d.thieves.length := by simp at hc; omega
    clear hc
    have hm4 := htm _ (List.getElem_mem hlt)
    (repeat (first | refine go ?_ | with_reducible intro _))
    refine Wk.drawr (ms := [0, 1, 0, 0, 12, 28, 63, 127, 255]) (l := [0, 1, 2, 3, 4, 5, 6, 7, 8]) (by kernel_rfl) (by kernel_rfl) (by kernel_rfl) rfl ?_
    (repeat (first | refine go ?_ | with_reducible intro _))
    have hth := thread_ (m := d.thieves[j]) hD5 (by omega) (fun a i => by rw [stealI_len]; omega) (stealF (Z := Z5))
    rw [show thrI d.size (fun a _ => stealI a) d.thieves[j].toNat = thiefI d d.thieves[j] from rfl] at hth
    refine Wk.callD rfl rfl (Spl.none _) hth rfl rfl fun v35 Z6 A' hz6 hq => ?_
    obtain rfl := hq
    refine ⟨?_, ?_⟩
    · (repeat (first | exact PnAll.done | refine PnAll.two ?_ | refine PnAll.skip rfl ?_ | refine PnAll.keep (Rd.loadL rfl rfl (by first | exact Or.inl (by assumption) | (refine Or.inr ?_; repeat (first | exact List.Mem.head _ | refine List.Mem.tail _ ?_))) rfl rfl) (by first | exact veq_slice _ _ _ | exact veq_int _ _ | exact Sl.veq (by assumption) | simp [veq, veqL, veq1]) ?_ | refine PnAll.keep (by apply Rd.loadP (o := 0); exact rfl; exact rfl; (first | assumption | (refine Pz.mono ?_ (by assumption); assumption)); exact rfl; exact rfl) (by first | exact veq_slice _ _ _ | exact veq_int _ _ | exact Sl.veq (by assumption) | simp [veq, veqL, veq1]) ?_))
    first | apply Wk.olFreezer (v := v35) | apply Wk.olFreeze (v := v35)
    case p => repeat (first | exact Rem.head | apply Rem.tail)
    intro Z7 e7 s35
    obtain ⟨a35, c35, rfl⟩ := s35.form
    (repeat (first | refine go ?_ | with_reducible intro _))
    refine Wk.bs (cs := [.slice a35 _ c35]) rfl rfl rfl rfl rfl rfl rfl fun b36 => ?_
    refine Wk.append (kk := 1) (new := [.slice a35 _ c35]) rfl rfl rfl rfl rfl rfl rfl rfl (by repeat (first | exact Rem.head | apply Rem.tail)) (Src.lit (by first | exact Or.inl (by assumption) | (refine Or.inr ?_; repeat (first | exact List.Mem.head _ | refine List.Mem.tail _ ?_))) rfl) rfl rfl rfl (by omega) (by omega) (by kernel_rfl) rfl rfl fun v37 => ?_
    refine Wk.dropr (.keep (.drop (Sub.refl _))) ?_
    first | refine Wk.knowr (by repeat (first | exact Rem.head | apply Rem.tail)) (fun s h => ol.form (v := v37) h) ?_ | refine Wk.know (by repeat (first | exact Rem.head | apply Rem.tail)) (fun s h => ol.form (v := v37) h) ?_
    rintro ⟨a37, c37, rfl⟩
    (repeat (first | refine go ?_ | with_reducible intro _))
    refine Wk.inv ⟨_, by omega, j + 1, _, _, hlt, rfl, hz5.trans (hz6.trans e7), rfl, ?_, (by repeat (first | exact trivial | refine And.intro rfl ?_ | refine And.intro (kpI rfl (by omega)) ?_))⟩
    rw [List.take_succ_eq_append_getElem hlt, List.map_append]
    exact (hus.mono fun _ _ q => q.mono (hz6.trans e7)).snoc s35
  · have hjn : j = d.thieves.length := by simp at hc; omega
    subst hjn
    rw [List.take_length] at hus
    first | apply Wk.olFreezer (v := .slice aT (d.thieves.length + 1) cT) | apply Wk.olFreeze (v := .slice aT (d.thieves.length + 1) cT)
    case p => repeat (first | exact Rem.head | apply Rem.tail)
    intro Z6 e6 sT
    (repeat (first | refine go ?_ | with_reducible intro _))
    refine Wk.ret ⟨_, Rs.cell rfl rfl (by first | exact Or.inl (by assumption) | (refine Or.inr ?_; repeat (first | exact List.Mem.head _ | refine List.Mem.tail _ ?_))) rfl rfl Rs.nil, _, Sub.none _, ⟨_, rfl, _, _, rfl, by simpa using sw4.mono (hz5.trans e6), us, by simpa [progI] using sT, hus.mono fun _ _ q => q.mono e6⟩, rfl⟩
end Go.Proofs.J
/- Sort, tests and Compact of a row that is owned; the error of a deque, by the program. -/
namespace Go.Proofs.J
open Go.Ev Go Go.Sort
set_option linter.unusedVariables false
set_option maxHeartbeats 4000000
set_option maxRecDepth 100000
theorem Cz.olOpen {fv : Value} {args : List Value} {Z : Zone} {A : List SA} {sz mm : Nat} {v : Value} {vs : List Value} {Q : Value → Zone → List SA → Prop} (hm : 0 < mm)
    (c : ∀ b cp, v = .slice (some ⟨b, 0, none⟩) mm cp → mm ≤ cp → Cz M fv args Z (olp b sz v mm vs :: A) Q) : Cz M fv args Z (ol sz v mm vs :: A) Q := by
  intro H φ h3
  obtain ⟨s, t, k1, k2, k3⟩ := h3.rem Rem.head
  rcases k1 with ⟨_, rfl, _⟩ | ⟨_, _, _, _, _, _, _, _, _, _, rfl, _⟩ | ⟨b, gg, cp, xs, hx⟩
  · omega
  · omega
  · exact c b cp hx.1 hx.2.1 H φ ⟨s ++ t, .cons (P := olp b sz v mm vs) ⟨gg, cp, xs, hx⟩ k2, by rw [List.append_assoc]; exact k3⟩
theorem Cz.olForm {fv : Value} {args : List Value} {Z : Zone} {A : List SA} {sz mm : Nat} {v : Value} {vs : List Value} {Q : Value → Zone → List SA → Prop}
    (c : ∀ a cp, v = .slice a mm cp → Cz M fv args Z (ol sz v mm vs :: A) Q) : Cz M fv args Z (ol sz v mm vs :: A) Q := by
  intro H φ h3
  obtain ⟨s, t, k1, k2, k3⟩ := h3.rem Rem.head
  obtain ⟨a, cp, e⟩ := ol.form k1
  exact c a cp e H φ h3
theorem Cz.olShut {fv : Value} {args : List Value} {Z : Zone} {A : List SA} {b sz mm : Nat} {v : Value} {P : Value → Zone → List Value → Prop}
    (h : Cz M fv args Z A (fun v' Z' A' => ∃ vs, P v' Z' vs ∧ A' = [olp b sz v mm vs])) : Cz M fv args Z A (fun v' Z' A' => ∃ vs, P v' Z' vs ∧ A' = [ol sz v mm vs]) := by
  intro H φ h3
  obtain ⟨n, v', H', Z', A', h1, h2, h3, vs, h4, rfl⟩ := h H φ h3
  refine ⟨n, v', H', Z', _, h1, h2, ?_, vs, h4, rfl⟩
  obtain ⟨s, t, k1, k2, k3⟩ := h3.rem Rem.head
  exact ⟨s ++ t, .cons (P := ol sz v mm vs) (olp.ol k1) k2, by rw [List.append_assoc]; exact k3⟩
theorem insertion0 {Z : Zone} {A : List SA} {v : Value} : Cz M (.func (.func 142) #[] #[]) [v, .int .i64 0, .int .i64 0] Z A (fun v' Z' A' => Z = Z' ∧ A' = A) := by
  refine Cz.fn (f := Tryz.f142) (by kernel_rfl) rfl rfl rfl _ rfl ?_
  (repeat (first | refine go ?_ | with_reducible intro _))
  refine Wk.loop (fun mm L Z' A' => Z = Z' ∧ A' = A ∧ Kp L [(2, .int .i64 0), (6, .int .i64 1)]) 0 ⟨rfl, rfl, (by repeat (first | exact trivial | refine And.intro rfl ?_ | refine And.intro (kpI rfl (by omega)) ?_))⟩ ?_
  rintro mm L Z' A' - ⟨rfl, rfl, hk⟩
  refine Wk.kp hk ?_
  (repeat (first | refine go ?_ | with_reducible intro _))
  refine Wk.done ⟨_, Rs.nil, _, Sub.refl _, rfl, rfl⟩
theorem pdq0 {Z : Zone} {A : List SA} {v : Value} : Cz M (.func (.func 105) #[] #[]) [v, .int .i64 0, .int .i64 0, .int .i64 0] Z A (fun v' Z' A' => Z = Z' ∧ A' = A) := by
  refine Cz.fn (f := Tryz.f105) (by kernel_rfl) rfl rfl rfl _ rfl ?_
  (repeat (first | refine go ?_ | with_reducible intro _))
  refine Wk.loop (fun mm L Z' A' => Z = Z' ∧ A' = A ∧ Kp L [(0, v), (1, .int .i64 0), (2, .int .i64 0)]) 0 ⟨rfl, rfl, (by repeat (first | exact trivial | refine And.intro rfl ?_ | refine And.intro (kpI rfl (by omega)) ?_))⟩ ?_
  rintro mm L Z' A' - ⟨rfl, rfl, hk⟩
  refine Wk.kp hk ?_
  (repeat (first | refine go ?_ | with_reducible intro _))
  refine Wk.call rfl rfl (Spl.none _) (insertion0 (A := [])) rfl rfl rfl ?_
  rintro v' Z' A' hz ⟨rfl, rfl⟩
  (repeat (first | refine go ?_ | with_reducible intro _))
  refine Wk.ret ⟨_, Rs.nil, _, Sub.refl _, rfl, rfl⟩
theorem sort0A {Z : Zone} {A : List SA} {a : Option Addr} {c : Nat} : Cz M (.func (.func 54) #[] #[]) [.slice a 0 c] Z A (fun v' Z' A' => Z = Z' ∧ A' = A) := by
  refine Cz.fn (f := Tryz.f54) (by kernel_rfl) rfl rfl rfl _ rfl ?_
  (repeat (first | refine go ?_ | with_reducible intro _))
  refine Wk.conv rfl rfl rfl (u64_small (c := 0) (by omega) (by omega)) rfl rfl rfl ?_
  (repeat (first | refine go ?_ | with_reducible intro _))
  refine Wk.call rfl rfl (Spl.none _) len0 rfl rfl rfl ?_
  rintro v' Z' A' hz ⟨rfl, rfl, rfl⟩
  (repeat (first | refine go ?_ | with_reducible intro _))
  refine Wk.call rfl rfl (Spl.none _) (pdq0 (A := [])) rfl rfl rfl ?_
  rintro v' Z' A' hz ⟨rfl, rfl⟩
  (repeat (first | refine go ?_ | with_reducible intro _))
  refine Wk.done ⟨_, Rs.nil, _, Sub.refl _, rfl, rfl⟩
theorem sorted_list {e : Array Int} {n : Nat} (hn : e.size = n) (h : SortedIn ltInt 0 n e) : e.toList.Pairwise (· ≤ ·) := by
  rw [List.pairwise_iff_getElem]
  intro i j hi hj hij
  have := h i j (Nat.zero_le _) hij (by simpa [hn] using hj)
  rw [getElem!_pos e i (by simpa using hi), getElem!_pos e j (by simpa using hj)] at this
  simp [ltInt] at this
  simpa using this
theorem perm_list {d e : Array Int} {n : Nat} (hn : d.size = n) (h : PermIn 0 n d e) : e.size = n ∧ e.toList.Perm d.toList := by
  obtain ⟨h1, h2, h3⟩ := h
  refine ⟨h1.trans hn, ?_⟩
  have e1 : e.extract 0 n = e := by rw [← hn, ← h1]; exact Array.extract_size
  have e2 : d.extract 0 n = d := by rw [← hn]; exact Array.extract_size
  rw [e1, e2] at h3
  exact h3
theorem sortOl {Z : Zone} {v : Value} {l : List Int} (hs : l.length ≤ 1000000) :
    Cz M (.func (.func 54) #[] #[]) [v] Z [ol 1 v l.length (nums l)] (fun v' Z' A' => ∃ vs, (Z = Z' ∧ ∃ e : List Int, vs = nums e ∧ e.Perm l ∧ e.Pairwise (· ≤ ·)) ∧ A' = [ol 1 v l.length vs]) := by
  by_cases h0 : l = []
  · subst h0
    refine Cz.olForm fun a cp e => ?_
    subst e
    refine sort0A.mono ?_
    rintro v' Z' A' hz ⟨rfl, rfl⟩
    exact ⟨_, ⟨rfl, [], rfl, .refl _, .nil⟩, rfl⟩
  · have hp : 0 < l.length := List.length_pos_iff.2 h0
    refine Cz.olOpen hp fun b cp e hcp => ?_
    subst e
    have hic : nums l = ic l.toArray := by simp [ic]
    rw [hic]
    refine Cz.olShut (b := b) ((sortInts (n := l.length) (d := l.toArray) (by simp) hs).mono ?_)
    rintro v' Z' A' hz ⟨rfl, e, g1, g2, rfl⟩
    obtain ⟨k1, k2⟩ := perm_list (by simp) g1
    exact ⟨_, ⟨rfl, e.toList, rfl, by simpa using k2, sorted_list k1 g2⟩, rfl⟩
theorem any0A {Z : Zone} {A : List SA} {a : Option Addr} {c : Nat} {fv : Value} : Cz M (.func (.func 56) #[] #[]) [.slice a 0 c, fv] Z A (fun v' Z' A' => v' = .bool false ∧ Z = Z' ∧ A' = A) := by
  refine Cz.fn (f := Tryz.f56) (by kernel_rfl) rfl rfl rfl _ rfl ?_
  (repeat (first | refine go ?_ | with_reducible intro _))
  refine Wk.call rfl rfl (Spl.none _) (Q1 := fun v' Z' A' => v' = .bool false ∧ Z = Z' ∧ A' = []) ?_ rfl rfl rfl ?_
  · refine Cz.fn (f := Tryz.f107) (by kernel_rfl) rfl rfl rfl _ rfl ?_
    (repeat (first | refine go ?_ | with_reducible intro _))
    refine Wk.call rfl rfl (Spl.none _) (Q1 := fun v' Z' A' => v' = .int .i64 (-1) ∧ Z = Z' ∧ A' = []) ?_ rfl rfl rfl ?_
    · refine Cz.fn (f := Tryz.f118) (by kernel_rfl) rfl rfl rfl _ rfl ?_
      (repeat (first | refine go ?_ | with_reducible intro _))
      refine Wk.loop (fun mm L Z' A' => Z = Z' ∧ A' = [] ∧ Kp L [(7, .int .i64 0), (8, .int .i64 0)]) 0 ⟨rfl, rfl, (by repeat (first | exact trivial | refine And.intro rfl ?_ | refine And.intro (kpI rfl (by omega)) ?_))⟩ ?_
      rintro mm L Z' A' - ⟨rfl, rfl, hk⟩
      refine Wk.kp hk ?_
      (repeat (first | refine go ?_ | with_reducible intro _))
      refine Wk.ret ⟨_, Rs.tmp rfl Rs.nil, _, Sub.refl _, rfl, rfl, rfl⟩
    rintro v' Z' A' hz ⟨rfl, rfl, rfl⟩
    (repeat (first | refine go ?_ | with_reducible intro _))
    refine Wk.ret ⟨_, Rs.tmp rfl Rs.nil, _, Sub.refl _, rfl, rfl, rfl⟩
  rintro v' Z' A' hz ⟨rfl, rfl, rfl⟩
  (repeat (first | refine go ?_ | with_reducible intro _))
  refine Wk.ret ⟨_, Rs.tmp rfl Rs.nil, _, Sub.refl _, rfl, rfl, rfl⟩
theorem anyOl {Z : Zone} {v fv : Value} {l : List Int} {n : Nat} (p : Int → Prop) (hn : l.length = n) (hs : n ≤ 1000000) (hp : ∀ x ∈ l, Cz M fv [.int .i64 x] Z [] (fun v' Z' A' => Bis v' (p x) ∧ Z = Z' ∧ A' = [])) :
    Cz M (.func (.func 56) #[] #[]) [v, fv] Z [ol 1 v n (nums l)] (fun v' Z' A' => ∃ vs, (Bis v' (∃ x ∈ l, p x) ∧ Z = Z' ∧ vs = nums l) ∧ A' = [ol 1 v n vs]) := by
  by_cases h0 : n = 0
  · subst h0
    have hl : l = [] := List.length_eq_zero_iff.1 hn
    subst hl
    refine Cz.olForm fun a cp e => ?_
    subst e
    refine any0A.mono ?_
    rintro v' Z' A' hz ⟨rfl, rfl, rfl⟩
    exact ⟨_, ⟨Bis.of (by simp), rfl, rfl⟩, rfl⟩
  · refine Cz.olOpen (by omega) fun b cp e hcp => ?_
    subst e
    refine Cz.olShut (b := b) ((anyOwn p hn hs hp).mono ?_)
    rintro v' Z' A' hz ⟨hb, rfl, rfl⟩
    exact ⟨_, ⟨hb, rfl, rfl⟩, rfl⟩
theorem compactS {Z : Zone} {A : List SA} {a : Option Addr} {n c : Nat} (h : n < 2) : Cz M (.func (.func 62) #[] #[]) [.slice a n c] Z A (fun v' Z' A' => v' = .slice a n c ∧ Z = Z' ∧ A' = A) := by
  refine Cz.fn (f := Tryz.f62) (by kernel_rfl) rfl rfl rfl _ rfl ?_
  (repeat (first | refine go ?_ | with_reducible intro _))
  refine Wk.cond rfl (fun hc => ?_) (fun hc => ?_)
  · (repeat (first | refine go ?_ | with_reducible intro _))
    refine Wk.ret ⟨_, Rs.tmp rfl Rs.nil, _, Sub.refl _, rfl, rfl, rfl⟩
  · exfalso; simp at hc; omega
theorem cpt_short {l : List Int} (h : l.length < 2) : cpt l = l := by
  match l, h with
  | [], _ => rfl
  | [x], _ => rfl
theorem compactOl {Z : Zone} {v : Value} {l : List Int} {n : Nat} (hn : l.length = n) (hs : n ≤ 1000000) :
    Cz M (.func (.func 62) #[] #[]) [v] Z [ol 1 v n (nums l)] (fun v' Z' A' => Z = Z' ∧ ∃ w, A' = [ol 1 v' (cpt l).length w]) := by
  by_cases h2 : n < 2
  · refine Cz.olForm fun a cp e => ?_
    subst e
    refine (compactS h2).mono ?_
    rintro v' Z' A' hz ⟨rfl, rfl, rfl⟩
    exact ⟨rfl, _, by rw [cpt_short (by omega), hn]⟩
  · refine Cz.olOpen (by omega) fun b cp e hcp => ?_
    subst e
    refine (compact_ hn (by omega) hs hcp).mono ?_
    rintro v' Z' A' hz ⟨rfl, rfl⟩
    exact ⟨rfl, _, rfl⟩
end Go.Proofs.J
