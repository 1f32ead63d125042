/- GA -/
import Derived.Test.YthgknlmmibamaaaGreatEvF
import Derived.Test.YthgknlmmibamaaaGreatEM
import Derived.Test.YthgknlmmibamaaaGreatFA
import Derived.Test.YthgknlmmibamaaaGreatJA
namespace Go.Proofs.J
attribute [local irreducible] Go.Ev.Wk
open Go.Ev Go
set_option linter.unusedVariables false
set_option maxHeartbeats 4000000
theorem ElRL.length {Z : Zone} : ∀ {l : List El} {us : List Value}, ElRL Z l us → us.length = l.length * 4
 | [], us, h => by simp only [ElRL] at h; subst h; rfl
 | s :: r, us, h => by
  simp only [ElRL] at h
  obtain ⟨c, rest, rfl, h1, h2⟩ := h
  obtain ⟨a1, c1, a2, c2, us', rfl, _⟩ := h1.form
  have := ElRL.length h2
  simp only [List.length_append, List.length_cons, List.length_nil, this]; omega
theorem ElRL.ok {Z : Zone} : ∀ {l : List El} {us : List Value}, ElRL Z l us → okCells us = true
 | [], us, h => by simp only [ElRL] at h; subst h; rfl
 | s :: r, us, h => by
  simp only [ElRL] at h
  obtain ⟨c, rest, rfl, h1, h2⟩ := h
  obtain ⟨a1, c1, a2, c2, us', rfl, _⟩ := h1.form
  have := ElRL.ok h2
  simp only [okCells, List.all_append, Bool.and_eq_true] at this ⊢
  exact ⟨rfl, this⟩
theorem cloneE {Z : Zone} {v : Value} {m : Nat} {vs : List Value} (h : Sl Z 4 v m vs) (hm : m ≤ 2199023255552) (ok : okCells vs = true) : Cz M (.func (.func 188) #[] #[]) [v] Z [] (fun v' Z' A' => Z = Z' ∧ A' = [ol 4 v' m vs]) := by
 have hl := h.length
 have h0 := h
 rcases h with ⟨rfl, rfl, rfl⟩ | ⟨b, off, c, xs, wr, g, rfl, h2, h3, h4, h5⟩
 ·refine Cz.fn (f := Tryz.f188) (by kernel_rfl) rfl rfl rfl _ rfl ?_
  (repeat first|refine go ?_|intro _)
  refine Wk.olNil 4 ?_
  refine Wk.ret ?_
  exact ⟨_, Rs.tmp rfl Rs.nil, _, Sub.refl _, rfl, rfl⟩
 ·refine Cz.fn (f := Tryz.f188) (by kernel_rfl) rfl rfl rfl _ rfl ?_
  (repeat first|refine go ?_|intro _)
  refine Wk.bs rfl rfl rfl rfl rfl rfl rfl fun b5 => ?_
  (repeat first|refine go ?_|intro _)
  refine Wk.alterr (C := [ol 4 (.slice (some ⟨b5, 0, none⟩) 0 0) 0 []]) rem (fun s h => ol_of_pt (m := 0) (vs := []) (g := 0) rfl (.inl rfl) rfl h) ?_
  refine Wk.append rfl rfl rfl rfl rfl rfl rfl rfl Rem.head (Src.sl h0) rfl ok hl (by omega) (by omega) rfl rfl rfl fun v7 => ?_
  (repeat first|refine go ?_|intro _)
  refine Wk.ret ?_
  exact ⟨_, Rs.tmp rfl Rs.nil, _, Sub.refl _, rfl, by simp only [Nat.zero_add, List.nil_append]; rfl⟩
theorem cloneI2 {Z : Zone} {v : Value} {m : Nat} {vs : List Value} (h : Sl Z 1 v m vs) (hm : m ≤ 17592186044416) (ok : okCells vs = true) : Cz M (.func (.func 189) #[] #[]) [v] Z [] (fun v' Z' A' => Z = Z' ∧ A' = [ol 1 v' m vs]) := by
 have hl := h.length
 have h0 := h
 rcases h with ⟨rfl, rfl, rfl⟩ | ⟨b, off, c, xs, wr, g, rfl, h2, h3, h4, h5⟩
 ·refine Cz.fn (f := Tryz.f189) (by kernel_rfl) rfl rfl rfl _ rfl ?_
  (repeat first|refine go ?_|intro _)
  refine Wk.olNil 1 ?_
  refine Wk.ret ?_
  exact ⟨_, Rs.tmp rfl Rs.nil, _, Sub.refl _, rfl, rfl⟩
 ·refine Cz.fn (f := Tryz.f189) (by kernel_rfl) rfl rfl rfl _ rfl ?_
  (repeat first|refine go ?_|intro _)
  refine Wk.bs rfl rfl rfl rfl rfl rfl rfl fun b5 => ?_
  (repeat first|refine go ?_|intro _)
  refine Wk.alterr (C := [ol 1 (.slice (some ⟨b5, 0, none⟩) 0 0) 0 []]) rem (fun s h => ol_of_pt (m := 0) (vs := []) (g := 0) rfl (.inl rfl) rfl h) ?_
  refine Wk.append rfl rfl rfl rfl rfl rfl rfl rfl Rem.head (Src.sl h0) rfl ok hl (by omega) (by omega) rfl rfl rfl fun v7 => ?_
  (repeat first|refine go ?_|intro _)
  refine Wk.ret ?_
  exact ⟨_, Rs.tmp rfl Rs.nil, _, Sub.refl _, rfl, by simp only [Nat.zero_add, List.nil_append]; rfl⟩
theorem set4 {us us' : List Value} {j : Nat} {a b c e : Value} (h : us'.length = j * 4) (hj : j * 4 + 4 ≤ us.length) : setCells (us' ++ us.drop (j * 4)) (j * 4) [a, b, c, e] = some ((us' ++ [a, b, c, e]) ++ us.drop ((j + 1) * 4)) := by
 unfold setCells
 rw [if_pos (by simp; omega)]
 rw [← h]
 have e : (j + 1) * 4 = us'.length + 4 := by omega
 rw [e]
 simp [List.drop_append]
theorem copiesE {Z : Zone} {v fv : Value} {us : List Value} {l : List El} (s : Sl Z 4 v l.length us) (a : ElRL Z l us) (hn : l.length ≤ 2199023255552)
  (hone : ∀ (Z' : Zone) (i : Nat) (hi : i < l.length) (k n : Int) a1 m1 c1 a2 m2 c2, Ext Z Z' → ElR Z' l[i] [.int .u8 k, .int .i64 n, .slice a1 m1 c1, .slice a2 m2 c2] → Cz M fv [.agg ⟨[.int .u8 k, .int .i64 n, .slice a1 m1 c1, .slice a2 m2 c2]⟩] Z' [] (fun v' Z'' A' => ∃ cs', v' = .agg ⟨cs'⟩ ∧ ElR Z'' l[i] cs' ∧ A' = [])) :
  Cz M (.func (.func 127) #[] #[]) [v, fv] Z [] (fun v' Z' A' => ∃ us', ElRL Z' l us' ∧ A' = [ol 4 v' l.length us']) := by
 have hl := a.length
 refine Cz.fn (f := Tryz.f127) (by kernel_rfl) rfl rfl rfl _ rfl ?_
 (repeat first|refine go ?_|intro _)
 refine Wk.call rfl rfl (Spl.none _) (cloneE s hn a.ok) rfl rfl rfl ?_
 rintro v5 Z' A' hz ⟨rfl, rfl⟩
 (repeat first|refine go ?_|intro _)
 refine Wk.loop (fun mm L Z' A' => ∃ j us', j ≤ l.length ∧ mm = l.length - j ∧ Ext Z Z' ∧ ElRL Z' (l.take j) us' ∧ A' = [ol 4 v5 l.length (us' ++ us.drop (j * 4))] ∧ Kp L [(1, fv), (5, v5), (10, v5), (11, .int .i64 l.length), (12, .int .i64 j)]) l.length ⟨0, [], by omega, rfl, Ext.refl _, by simp [ElRL], rfl, kp_⟩ ?_
 rintro mm L Z' A' - ⟨j, us', hj, rfl, hz, hwa, rfl, hk⟩
 refine Wk.kp hk ?_
 clear hk
 have hu' : us'.length = j * 4 := by rw [hwa.length, List.length_take]; congr 1; omega
 (repeat first|refine go ?_|intro _)
 refine Wk.cond rfl (fun hc => ?_) (fun hc => ?_)
 ·have hlt : j < l.length := by simp at hc; omega
  obtain ⟨k, n, x1, m1, y1, x2, m2, y2, e1, e2⟩ := a.get j hlt
  have e3 : getCells (us' ++ us.drop (j * 4)) (j * 4) 4 = some [.int .u8 k, .int .i64 n, .slice x1 m1 y1, .slice x2 m2 y2] := by
   obtain ⟨k1, k2, k3⟩ := getC_some e1
   unfold getCells
   rw [if_pos (by simp; omega), ← hu', List.drop_append_of_le_length (Nat.le_refl _), List.drop_length, List.nil_append, hu', ← k2]
  (repeat first|refine go ?_|intro _)
  refine Wk.olOpenr (sz := 4) (v := v5) rem (by omega) fun bo => ?_
  refine Wk.iaOlp j rem rfl rfl rfl rfl rfl rfl rfl hlt ?_
  refine Wk.loadOlp (b := bo) (cs := [.int .u8 k, .int .i64 n, .slice x1 m1 y1, .slice x2 m2 y2]) (v := .agg ⟨[.int .u8 k, .int .i64 n, .slice x1 m1 y1, .slice x2 m2 y2]⟩) rfl rfl rem e3 rfl rfl rfl ?_
  (repeat first|refine go ?_|intro _)
  refine Wk.call rfl rfl (Spl.none _) (hone Z' j hlt k n x1 m1 y1 x2 m2 y2 hz (e2.mono hz)) rfl rfl rfl ?_
  rintro v21 Z2 A' hz1 ⟨cs', rfl, hR, rfl⟩
  obtain ⟨p1, q1, p2, q2, us2, rfl, _, _, _⟩ := hR.form
  (repeat first|refine go ?_|intro _)
  refine Wk.iaOlp (b := bo) (vs := us' ++ us.drop (j * 4)) j rem rfl rfl rfl rfl rfl rfl rfl hlt ?_
  refine Wk.storeOlp (b := bo) (vs := us' ++ us.drop (j * 4)) rfl rfl rfl rfl rfl rem (set4 hu' (by omega)) rfl rfl ?_
  refine Wk.olShutr Rem.head ?_
  refine Wk.dropr (.keep (Sub.none _)) ?_
  (repeat first|refine go ?_|intro _)
  refine Wk.inv ⟨_, by omega, j + 1, _, hlt, rfl, hz.trans hz1, ?_, rfl, kp_⟩
  rw [List.take_succ_eq_append_getElem hlt]
  exact ElRL.snoc hR (hwa.mono hz1)
 ·have hjd : j = l.length := by simp at hc; omega
  subst hjd
  have e : us' ++ us.drop (l.length * 4) = us' := by rw [List.drop_eq_nil_of_le (by omega), List.append_nil]
  rw [List.take_length] at hwa
  rw [e]
  (repeat first|refine go ?_|intro _)
  refine Wk.ret ?_
  exact ⟨_, Rs.tmp rfl Rs.nil, _, Sub.refl _, us', hwa, rfl⟩
theorem cloneEl : ∀ (d : Nat) {s : El} {Z : Zone} {k n : Int} {a1 : Option Addr} {m1 c1 : Nat} {a2 : Option Addr} {m2 c2 : Nat}, s.Fit d → ElR Z s [.int .u8 k, .int .i64 n, .slice a1 m1 c1, .slice a2 m2 c2] →
  Cz M (.func (.func 128) #[] #[]) [.agg ⟨[.int .u8 k, .int .i64 n, .slice a1 m1 c1, .slice a2 m2 c2]⟩] Z [] (fun v' Z' A' => ∃ cs', v' = .agg ⟨cs'⟩ ∧ ElR Z' s cs' ∧ A' = [])
 | 0, s, Z, k, n, a1, m1, c1, a2, m2, c2, ht, h => ht.pos.elim
 | d + 1, s, Z, k, n, a1, m1, c1, a2, m2, c2, ht, h => by
  obtain ⟨p1, q1, p2, q2, us, e, hk, hl, hL⟩ := h.form
  cases e
  have t1 := ht.sm.1
  have t2 := ht.sm.2.1
  refine Cz.fn (f := Tryz.f128) (by kernel_rfl) rfl rfl rfl _ rfl ?_
  (repeat first|refine go ?_|intro _)
  rename_i b1 b2
  refine Wk.drawr (ms := [0, 1, 3, 0, 8, 31, 31, 127, 255, 511]) (l := [0, 1, 3, 4, 2, 6, 5, 7, 8, 9]) (by kernel_rfl) (by kernel_rfl) (by kernel_rfl) rfl ?_
  (repeat first|refine go ?_|intro _)
  refine Wk.callD rfl rfl (Spl.none _) (cloneI2 hk t1 (okCells_int _)) rfl rfl fun v5 Z5 A' hz5 hq => ?_
  obtain ⟨rfl, rfl⟩ := hq
  refine ⟨?_, ?_⟩
  ·exact pnb
  refine Wk.dropr (B := _ :: _) (Sub.refl _) ?_
  first | apply Wk.olFreezer (v := v5) | apply Wk.olFreeze (v := v5)
  case p => exact rem
  intro Z1 e1 h5
  obtain ⟨x5, y5, rfl⟩ := h5.form
  (repeat first|refine go ?_|intro _)
  refine Wk.callD rfl rfl (Spl.none _) (copiesE (hl.mono e1) (hL.mono e1) t2 (fun Z' i hi k n a1 m1 c1 a2 m2 c2 ez hR => cloneEl d (ht.kid hi) hR)) rfl rfl fun v8 Z2 A' hz2 hq => ?_
  obtain ⟨us', hR, rfl⟩ := hq
  refine ⟨?_, ?_⟩
  ·exact pnb
  refine Wk.dropr (B := _ :: _) (Sub.refl _) ?_
  first | apply Wk.olFreezer (v := v8) | apply Wk.olFreeze (v := v8)
  case p => exact rem
  intro Z3 e3 h8
  obtain ⟨x8, y8, rfl⟩ := h8.form
  refine Wk.dropr (B := [pt b2 (.cells [.int .u8 0, .int .i64 0, .slice none 0 0, .slice none 0 0] true 0), pt b1 (.cells [.int .u8 s.kind, .int .i64 s.n, .slice a1 s.keys.length c1, .slice a2 s.kids.length c2] true 0)]) (Sub.refl _) ?_
  (repeat first|refine go ?_|intro _)
  refine Wk.store rfl rfl rfl rfl rfl (.tail .head) rfl (by kernel_rfl) rfl ?_
  (repeat first|refine go ?_|intro _)
  refine Wk.ret ⟨_, Rs.cell rfl rfl has rfl rfl Rs.nil, _, Sub.none _, _, rfl, ElR.of (h5.mono (hz2.trans e3)) h8 (hR.mono e3), rfl⟩
def JO (Z : Zone) (cs : List Value) (j : Jn) (vP : Value) (ps : List Value) : Prop := ∃ vB vE, cs = [vB, vP, vE, .int .i64 j.h, .int .i64 j.nx, .int .i64 j.nu, .int .i64 j.se, .int .i64 j.co, .int .i64 j.fr] ∧ Bys Z vB j.d.1 ∧ ElsR Z vE j.s ∧ WA Z ps j.d.2
theorem JO.mono {Z Z' : Zone} {cs : List Value} {j : Jn} {vP : Value} {ps : List Value} (e : Ext Z Z') (h : JO Z cs j vP ps) : JO Z' cs j vP ps := let ⟨a, b, h1, h2, h3, h4⟩ := h; ⟨a, b, h1, h2.mono e, h3.mono e, h4.mono e⟩
theorem Bys.form {Z : Zone} {v : Value} {xss : List (List Int)} (h : Bys Z v xss) : ∃ a c, v = .slice a xss.length c := let ⟨_, h1, _⟩ := h; h1.form
def jz (b : Nat) : SA := pt b (.cells [.slice none 0 0, .slice none 0 0, .slice none 0 0, .int .i64 0, .int .i64 0, .int .i64 0, .int .i64 0, .int .i64 0, .int .i64 0] true 0)
theorem cloneJ {Z : Zone} {cj : List Value} {j : Jn} {d : Nat} (hj : JnR Z cj j) (ht : ThinP j.d) (h8 : j.s.length ≤ 8) (hd : j.In d) :
  Cz M (.func (.func 73) #[] #[]) [.agg ⟨cj⟩] Z [] (fun v' Z' A' => ∃ cs vP ps, v' = .agg ⟨cs⟩ ∧ JO Z' cs j vP ps ∧ A' = [ol 2 vP j.d.2.length ps]) := by
 obtain ⟨a1, m1, c1, a2, m2, c2, a3, c3, rfl, hD, hE⟩ := hj.form
 obtain ⟨us0, hs0, hL0⟩ := id hE
 refine Cz.fn (f := Tryz.f73) (by kernel_rfl) rfl rfl rfl _ rfl ?_
 (repeat first|refine go ?_|intro _)
 rename_i b1 b2
 refine Wk.drawr (ms := [0, 1, 3, 0, 8, 31, 31, 127, 255, 511]) (l := [0, 1, 3, 4, 2, 6, 5, 7, 8, 9]) (by kernel_rfl) (by kernel_rfl) (by kernel_rfl) rfl ?_
 (repeat first|refine go ?_|intro _)
 refine Wk.callD rfl rfl (Spl.none _) (cloned2 hD ht) rfl rfl fun v5 Z5 A' hz5 hq => ?_
 obtain ⟨vB, vP, us', ps', rfl, rfl, hB, hW⟩ := hq
 refine ⟨?_, ?_⟩
 ·exact pnb
 refine Wk.dropr (B := [ol 2 vP j.d.2.length ps', inn us' (j.d.1.map by8), jz b2, pt b1 (.cells [.slice a1 m1 c1, .slice a2 m2 c2, .slice a3 j.s.length c3, .int .i64 j.h, .int .i64 j.nx, .int .i64 j.nu, .int .i64 j.se, .int .i64 j.co, .int .i64 j.fr] true 0)]) (Sub.refl _) ?_
 refine Wk.innFreezer (us := us') (vss := j.d.1.map by8) rem fun Z1 e1 hall => ?_
 have hall2 := all2_map8 hall
 have hB1 : Bys Z1 vB j.d.1 := ⟨us', hB.mono e1, hall2⟩
 obtain ⟨x1, y1, rfl⟩ := hB1.form
 refine Wk.knowr (x := ol 2 vP j.d.2.length ps') rem (fun s h => ol.form h) ?_
 rintro ⟨x2, y2, rfl⟩
 (repeat first|refine go ?_|intro _)
 have e51 := hz5.trans e1
 refine Wk.callD rfl rfl (Spl.none _) (copiesE (hs0.mono e51) (hL0.mono e51) (by omega) (fun Z' i hi k n a1 m1 c1 a2 m2 c2 ez hR => cloneEl d (hd i hi) hR)) rfl rfl fun v8 Z2 A' hz2 hq => ?_
 obtain ⟨us8, hR, rfl⟩ := hq
 refine ⟨?_, ?_⟩
 ·exact pnb
 refine Wk.dropr (B := [ol 4 v8 j.s.length us8, ol 2 (.slice x2 j.d.2.length y2) j.d.2.length ps', jz b2, pt b1 (.cells [.slice a1 m1 c1, .slice a2 m2 c2, .slice a3 j.s.length c3, .int .i64 j.h, .int .i64 j.nx, .int .i64 j.nu, .int .i64 j.se, .int .i64 j.co, .int .i64 j.fr] true 0)]) (Sub.refl _) ?_
 first | apply Wk.olFreezer (v := v8) | apply Wk.olFreeze (v := v8)
 case p => exact rem
 intro Z3 e3 h8
 obtain ⟨x8, y8, rfl⟩ := h8.form
 have e23 := hz2.trans e3
 (repeat first|refine go ?_|intro _)
 refine Wk.store rfl rfl rfl rfl rfl (.tail (.tail .head)) rfl (by kernel_rfl) rfl ?_
 (repeat first|refine go ?_|intro _)
 refine Wk.ret ⟨_, Rs.cell rfl rfl has rfl rfl Rs.nil, _, .keep (Sub.none _), _, _, ps', rfl, ⟨_, _, rfl, hB1.mono e23, ⟨_, h8, hR.mono e3⟩, hW.mono (e1.trans e23)⟩, rfl⟩
theorem copyJ2 {Z : Zone} {cj : List Value} {j : Jn} {d : Nat} (hj : JnR Z cj j) (ht : ThinP j.d) (h8 : j.s.length ≤ 8) (hd : j.In d) :
  Cz M (.func (.func 26) #[] #[]) [.agg ⟨cj⟩] Z [] (fun v' Z' A' => ∃ cs vP ps, v' = .agg ⟨cs⟩ ∧ JO Z' cs j vP ps ∧ A' = [ol 2 vP j.d.2.length ps]) := by
 obtain ⟨a1, m1, c1, a2, m2, c2, a3, c3, rfl, hD, hE⟩ := hj.form
 refine Cz.fn (f := Tryz.f26) (by kernel_rfl) rfl rfl rfl _ rfl ?_
 (repeat first|refine go ?_|intro _)
 rename_i b1 b2
 refine Wk.drawr (ms := [0, 1, 3, 0, 8, 31, 31, 127, 255, 511]) (l := [0, 1, 3, 4, 2, 6, 5, 7, 8, 9]) (by kernel_rfl) (by kernel_rfl) (by kernel_rfl) rfl ?_
 (repeat first|refine go ?_|intro _)
 refine Wk.callD rfl rfl (Spl.none _) (copyDisk2 hD ht) rfl rfl fun v' Z5 A' hz5 hq => ?_
 obtain ⟨vB, vP, us', ps', rfl, rfl, hall, hW⟩ := hq
 refine ⟨?_, ?_⟩
 ·exact pnb
 refine Wk.dropr (B := [ol 2 vP j.d.2.length ps', ol 1 vB j.d.1.length us', jz b2, pt b1 (.cells [.slice a1 m1 c1, .slice a2 m2 c2, .slice a3 j.s.length c3, .int .i64 j.h, .int .i64 j.nx, .int .i64 j.nu, .int .i64 j.se, .int .i64 j.co, .int .i64 j.fr] true 0)]) (Sub.refl _) ?_
 first | apply Wk.olFreezer (v := vB) | apply Wk.olFreeze (v := vB)
 case p => exact rem
 intro Z1 e1 hB
 have hB1 : Bys Z1 vB j.d.1 := ⟨us', hB, hall.mono fun _ _ q => q.mono e1⟩
 obtain ⟨x1, y1, rfl⟩ := hB1.form
 refine Wk.knowr (x := ol 2 vP j.d.2.length ps') rem (fun s h => ol.form h) ?_
 rintro ⟨x2, y2, rfl⟩
 (repeat first|refine go ?_|intro _)
 have e51 := hz5.trans e1
 refine Wk.callD rfl rfl (Spl.none _) (copyEls (hE.mono e51) (by omega) hd) rfl rfl fun v8 Z3 A' hz3 hq => ?_
 obtain ⟨hE3, rfl⟩ := hq
 refine ⟨?_, ?_⟩
 ·exact pnb
 obtain ⟨x8, y8, rfl⟩ := hE3.form
 refine Wk.dropr (B := [ol 2 (.slice x2 j.d.2.length y2) j.d.2.length ps', jz b2, pt b1 (.cells [.slice a1 m1 c1, .slice a2 m2 c2, .slice a3 j.s.length c3, .int .i64 j.h, .int .i64 j.nx, .int .i64 j.nu, .int .i64 j.se, .int .i64 j.co, .int .i64 j.fr] true 0)]) (Sub.refl _) ?_
 (repeat first|refine go ?_|intro _)
 refine Wk.store rfl rfl rfl rfl rfl (.tail (.tail .head)) rfl (by kernel_rfl) rfl ?_
 (repeat first|refine go ?_|intro _)
 refine Wk.ret ⟨_, Rs.cell rfl rfl has rfl rfl Rs.nil, _, .keep (Sub.none _), _, _, ps', rfl, ⟨_, _, rfl, hB1.mono hz3, hE3, hW.mono (e1.trans hz3)⟩, rfl⟩
theorem Sl.some_ {Z : Zone} {sz m : Nat} {v : Value} {vs : List Value} (h : Sl Z sz v m vs) (hm : 0 < m) : ∃ b off c, v = .slice (some ⟨b, off, none⟩) m c := by
 rcases h with ⟨_, rfl, _⟩ | ⟨b, off, c, xs, wr, g, rfl, _⟩
 ·omega
 ·exact ⟨b, off, c, rfl⟩
def wrL (hf : Int) (hh at_ : Nat) (nu : Int) (bs : List Int) (k : Nat) : List (Int × List Int) := (List.range k).map fun i => (hf * hh + (at_ + i : Nat), blk nu bs i)
theorem wrL_succ {hf : Int} {hh at_ : Nat} {nu : Int} {bs : List Int} {k : Nat} : wrL hf hh at_ nu bs (k + 1) = wrL hf hh at_ nu bs k ++ [(hf * hh + (at_ + k : Nat), blk nu bs k)] := by simp [wrL, List.range_succ]
theorem wrL_len {hf : Int} {hh at_ : Nat} {nu : Int} {bs : List Int} {k : Nat} : (wrL hf hh at_ nu bs k).length = k := by simp [wrL]
def wrE (j : Jn) (at_ : Nat) (bs : List Int) : Int := if 255 < many bs ∨ 2000000000 < j.nu then 5 else if j.d.1.length / 2 < at_ + many bs ∨ 120 < j.d.2.length + many bs then 8 else 0
def wrJ (j : Jn) (hf : Int) (at_ : Nat) (bs : List Int) : Jn := { j with d := (j.d.1, j.d.2 ++ wrL hf (j.d.1.length / 2) at_ j.nu bs (many bs)), nu := j.nu + 1 }
theorem many_pos {bs : List Int} (h : 1 ≤ bs.length) : 1 ≤ many bs := by unfold many; omega
theorem half2 {Z : Zone} {a b : Option Addr} {m c n e : Nat} (hn : m ≤ 1000000) :
  Cz M (.func (.func 56) #[] #[]) [.agg ⟨[.slice a m c, .slice b n e]⟩] Z [] (fun v' Z' A' => v' = .int .i64 ((m / 2 : Nat) : Int) ∧ Z = Z' ∧ A' = []) := by
 refine Cz.fn (f := Tryz.f56) (by kernel_rfl) rfl rfl rfl _ rfl ?_
 (repeat first|refine go ?_|intro _)
 refine Wk.ret ⟨_, Rs.tmp rfl Rs.nil, _, Sub.none _, by simp [outOf], rfl, rfl⟩
theorem rHalf2 {Z : Zone} {a b : Option Addr} {m c n e : Nat} (hn : m ≤ 1000000) :
  Cz M (.func (.func 60) #[] #[]) [.agg ⟨[.slice a m c, .slice b n e]⟩] Z [] (fun v' Z' A' => v' = .int .i64 ((m / 2 : Nat) : Int) ∧ Z = Z' ∧ A' = []) := by
 refine Cz.fn (f := Tryz.f60) (by kernel_rfl) rfl rfl rfl _ rfl ?_
 (repeat first|refine go ?_|intro _)
 refine Wk.ret ⟨_, Rs.tmp rfl Rs.nil, _, Sub.none _, by simp [outOf], rfl, rfl⟩
def penA (bw bj : Nat) (hf : Int) (at_ : Nat) (cs : List Value) (vP : Value) (m : Nat) (ps : List Value) : List SA := [ol 2 vP m ps, pt bw (.cells [.pointer (some ⟨bj, 0, none⟩), .int .i64 hf, .int .i64 at_] true 0), pt bj (.cells cs true 0)]
theorem penWrite {Z : Zone} {vd vP : Value} {bw bj : Nat} {cs ps : List Value} {j : Jn} {hf : Int} {at_ : Nat} {bs : List Int} (hJ : JO Z cs j vP ps) (hd : Sl Z 1 vd bs.length (by8 bs)) (hb1 : 1 ≤ bs.length) (hb2 : bs.length ≤ 100000) (hnu : 0 ≤ j.nu ∧ j.nu ≤ 2000000001) (hh : hf = 0 ∨ hf = 1) (hat : at_ ≤ 1000) (hform : ∃ a c, vP = .slice a j.d.2.length c) (h1 : j.d.1.length ≤ 1000) (h2 : j.d.2.length ≤ 1000) :
  Cz M (.func (.func 77) #[] #[]) [.pointer (some ⟨bw, 0, none⟩), vd] Z (penA bw bj hf at_ cs vP j.d.2.length ps)
   (fun v' Z' A' => v' = .int .i64 (wrE j at_ bs) ∧ ∃ at' cs' vP' m' ps', A' = penA bw bj hf at' cs' vP' m' ps' ∧ cs'.length = 9 ∧ (wrE j at_ bs = 0 → at' = at_ + many bs ∧ JO Z' cs' (wrJ j hf at_ bs) vP' ps' ∧ m' = (wrJ j hf at_ bs).d.2.length)) := by
 obtain ⟨vB, vE, rfl, hB, hE, hW⟩ := hJ
 obtain ⟨aB, cB, rfl⟩ := hB.form
 obtain ⟨aE, cE, rfl⟩ := hE.form
 obtain ⟨ad, cd, rfl⟩ := hd.form
 have hm1 := many_pos hb1
 unfold penA
 refine Cz.fn (f := Tryz.f77) (by kernel_rfl) rfl rfl rfl _ rfl ?_
 (repeat first|refine go ?_|intro _)
 refine Wk.call rfl rfl (Spl.none _) (blocks j.nu hd (by omega)) rfl rfl rfl ?_
 rintro v5 Z1 A' hz1 ⟨us, q1, q2⟩
 obtain ⟨aP, cP, hvP⟩ : ∃ a c, vP = .slice a j.d.2.length c := hform
 subst hvP
 by_cases h255 : 255 < many bs
 ·obtain ⟨rfl, rfl⟩ := q1 h255
  have hwE : wrE j at_ bs = 5 := by unfold wrE; rw [if_pos (.inl h255)]
  rw [hwE]
  refine Wk.dropr (B := [_, _, _]) (Sub.refl _) ?_
  (repeat first|refine go ?_|intro _)
  refine Wk.call rfl rfl (Spl.none _) (half2 (by omega)) rfl rfl rfl ?_
  rintro v' Z' A' hz ⟨rfl, rfl, rfl⟩
  (repeat first|refine go ?_|intro _)
  refine Wk.ret ⟨_, Rs.tmp rfl Rs.nil, _, Sub.refl _, rfl, _, _, _, _, _, rfl, rfl, fun h => by cases h⟩
 obtain ⟨rfl, hall⟩ := q2 (by omega)
 refine Wk.dropr (B := [_, _, _, _]) (Sub.refl _) ?_
 first | apply Wk.olFreezer (v := v5) | apply Wk.olFreeze (v := v5)
 case p => exact rem
 intro Z2 e2 h5
 replace hall := hall.mono fun _ _ q => Sl.mono e2 q
 obtain ⟨b5, o5, c5, rfl⟩ := Sl.some_ h5 hm1
 (repeat first|refine go ?_|intro _)
 refine Wk.call rfl rfl (Spl.none _) (half2 (by omega)) rfl rfl rfl ?_
 rintro v' Z' A' hz ⟨rfl, rfl, rfl⟩
 (repeat first|refine go ?_|intro _)
 refine Wk.cond rfl (fun hc => ?_) (fun hc => ?_)
 ·have hwE : wrE j at_ bs = 5 := by unfold wrE; rw [if_pos (.inr (by simpa using hc))]
  rw [hwE]
  (repeat first|refine go ?_|intro _)
  refine Wk.ret ⟨_, Rs.tmp rfl Rs.nil, _, Sub.refl _, rfl, _, _, _, _, _, rfl, rfl, fun h => by cases h⟩
 have hn9 : ¬ (255 < many bs ∨ 2000000000 < j.nu) := by simp at hc; omega
 clear hc
 (repeat first|refine go ?_|intro _)
 refine Wk.caser 49 rfl (fun hc => ?_) (fun hc => ?_)
 ·have hwE : wrE j at_ bs = 8 := by unfold wrE; rw [if_neg hn9, if_pos (.inl (by simp at hc; omega))]
  rw [hwE]
  (repeat first|refine go ?_|intro _)
  refine Wk.ret ⟨_, Rs.tmp rfl Rs.nil, _, Sub.refl _, rfl, _, _, _, _, _, rfl, rfl, fun h => by cases h⟩
 have hn8 : ¬ j.d.1.length / 2 < at_ + many bs := by simp at hc; omega
 clear hc
 (repeat first|refine go ?_|intro _)
 refine Wk.cond rfl (fun hc => ?_) (fun hc => ?_)
 ·have hwE : wrE j at_ bs = 8 := by unfold wrE; rw [if_neg hn9, if_pos (.inr (by simp at hc; omega))]
  rw [hwE]
  (repeat first|refine go ?_|intro _)
  refine Wk.ret ⟨_, Rs.tmp rfl Rs.nil, _, Sub.refl _, rfl, _, _, _, _, _, rfl, rfl, fun h => by cases h⟩
 have hn7 : ¬ 120 < j.d.2.length + many bs := by simp at hc; omega
 clear hc
 have hwE : wrE j at_ bs = 0 := by unfold wrE; rw [if_neg hn9, if_neg (by omega)]
 rw [hwE]
 have hhr : -1000000 ≤ hf * ((j.d.1.length / 2 : Nat) : Int) ∧ hf * ((j.d.1.length / 2 : Nat) : Int) ≤ 1000000 := by rcases hh with rfl | rfl <;> omega
 (repeat first|refine go ?_|intro _)
 refine Wk.loop (fun mm L Z' A' => ∃ (i : Nat) (aP' : Option Addr) (cP' : Nat) (ps' : List Value), i ≤ many bs ∧ mm = many bs - i ∧ Ext Z2 Z' ∧ A' = [ol 2 (.slice aP' (j.d.2.length + i) cP') (j.d.2.length + i) ps', pt bw (.cells [.pointer (some ⟨bj, 0, none⟩), .int .i64 hf, .int .i64 (at_ + i : Nat)] true 0), pt bj (.cells [.slice aB j.d.1.length cB, .slice aP' (j.d.2.length + i) cP', .slice aE j.s.length cE, .int .i64 j.h, .int .i64 j.nx, .int .i64 j.nu, .int .i64 j.se, .int .i64 j.co, .int .i64 j.fr] true 0)] ∧
  WA Z' ps' (j.d.2 ++ wrL hf (j.d.1.length / 2) at_ j.nu bs i) ∧ Kp L [(0, .pointer (some ⟨bw, 0, none⟩)), (6, .int .i64 (j.d.1.length / 2 : Nat)), (64, .slice (some ⟨b5, o5, none⟩) (many bs) c5), (65, .int .i64 (many bs)), (66, .int .i64 i)]) (many bs) ⟨0, aP, cP, ps, Nat.zero_le _, rfl, Ext.refl _, rfl, by simp [wrL]; exact hW.mono (hz1.trans e2), kp_⟩ ?_
 rintro mm L Z' A' - ⟨i, aP', cP', ps', hi, rfl, hzz, rfl, hWi, hk⟩
 refine Wk.kp hk ?_
 clear hk
 have h5' := h5.mono hzz
 (repeat first|refine go ?_|intro _)
 refine Wk.cond rfl (fun hc => ?_) (fun hc => ?_)
 ·have hlt : i < many bs := by simp at hc; omega
  clear hc
  obtain ⟨u, k1, k2⟩ := hall.getElem (i := i) (by simpa using hlt)
  have ei : ((List.range (many bs)).map (blk j.nu bs))[i]'(by simpa using hlt) = blk j.nu bs i := by simp
  rw [ei] at k2
  obtain ⟨au, cu, rfl⟩ := k2.form
  have hgi := getCells_one (o := i * 1) (by simpa using k1)
  (repeat first|refine go ?_|intro _)
  refine Wk.drawr (ms := [0, 1, 3, 7, 0, 16, 48, 112, 240, 496, 1008, 2032, 0, 4096, 12288, 28672, 0, 126976, 0, 262144, 786432, 1835008, 4190208, 0, 16773120, 33550336, 67108848, 134217727, 268435455, 536870911, 1073741823]) (l := [0, 1, 2, 3, 4, 5, 6, 7, 8, 9, 10, 11, 12, 13, 14, 15, 16, 17, 18, 19, 20, 21, 22, 23, 24, 25, 26, 27, 28, 29, 30]) (by kernel_rfl) (by kernel_rfl) (by kernel_rfl) rfl ?_
  (repeat first|refine go ?_|intro _)
  refine Wk.bs (cs := [.int .i64 (hf * ((j.d.1.length / 2 : Nat) : Int) + (at_ + i : Nat)), .slice au (blk j.nu bs i).length cu]) rfl rfl rfl rfl rfl rfl rfl fun b95 => ?_
  refine Wk.appendD (kk := 1) (new := [.int .i64 (hf * ((j.d.1.length / 2 : Nat) : Int) + (at_ + i : Nat)), .slice au (blk j.nu bs i).length cu]) rfl rfl rfl rfl rfl rfl rfl rfl rem (Src.lit has rfl) rfl rfl rfl (by omega) (by omega) rfl rfl fun v96 => ⟨?_, ?_⟩
  ·exact pnb
  refine Wk.dropr (.keep (.drop (Sub.refl _))) ?_
  first | refine Wk.knowr rem (fun s h => ol.form (v := v96) h) ?_ | refine Wk.know rem (fun s h => ol.form (v := v96) h) ?_
  rintro ⟨a96, c96, rfl⟩
  (repeat first|refine go ?_|intro _)
  refine Wk.store rfl rfl rfl rfl rfl (.tail (.tail .head)) rfl (by kernel_rfl) rfl ?_
  (repeat first|refine go ?_|intro _)
  refine Wk.inv ⟨_, by omega, i + 1, a96, c96, _, hlt, rfl, hzz, rfl, ?_, kp_⟩
  rw [wrL_succ, ← List.append_assoc]
  exact hWi.snoc (w := (hf * ((j.d.1.length / 2 : Nat) : Int) + (at_ + i : Nat), blk j.nu bs i)) (k2.mono hzz)
 have hie : i = many bs := by simp at hc; omega
 subst hie
 clear hc
 (repeat first|refine go ?_|intro _)
 refine Wk.ret ⟨_, Rs.tmp rfl Rs.nil, _, Sub.refl _, rfl, _, _, _, _, _, rfl, rfl, fun _ => ⟨rfl, ⟨_, _, rfl, hB.mono (hz1.trans (e2.trans hzz)), hE.mono (hz1.trans (e2.trans hzz)), hWi⟩, by simp [wrJ, wrL_len]⟩⟩
theorem errOf_iff {nu : Int} {bs : List Int} (hnu : 1 ≤ nu) (hb : 1 ≤ bs.length) : errOf nu bs = 0 ↔ ¬ (255 < many bs ∨ 2000000000 < nu) := by
 unfold errOf
 by_cases h1 : 1 ≤ nu ∧ nu ≤ 2000000000
 ·rw [if_neg (by simpa using h1), if_neg (by omega)]
  split
  ·simp; omega
  ·simp; omega
 ·rw [if_pos h1]
  constructor
  ·intro h; cases h
  ·intro h; omega
def rpenA (bj : Nat) (cs : List Value) (vP : Value) (m : Nat) (ps : List Value) : List SA := [ol 2 vP m ps, pt bj (.cells cs true 0)]
theorem refWrite {Z : Zone} {vd vP : Value} {bj : Nat} {cs ps : List Value} {j : Jn} {hf : Int} {at_ : Nat} {bs : List Int} (hJ : JO Z cs j vP ps) (hd : Sl Z 1 vd bs.length (by8 bs)) (hb1 : 1 ≤ bs.length) (hb2 : bs.length ≤ 100000) (hnu : 1 ≤ j.nu ∧ j.nu ≤ 2000000001) (hh : hf = 0 ∨ hf = 1) (hat : at_ ≤ 1000) (hform : ∃ a c, vP = .slice a j.d.2.length c) (h1 : j.d.1.length ≤ 1000) (h2 : j.d.2.length ≤ 1000) :
  Cz M (.func (.func 83) #[] #[]) [.pointer (some ⟨bj, 0, none⟩), .int .i64 hf, .int .i64 at_, vd] Z (rpenA bj cs vP j.d.2.length ps)
   (fun v' Z' A' => v' = .tuple ⟨[.int .i64 (if wrE j at_ bs = 0 then (many bs : Int) else 0), .int .i64 (wrE j at_ bs)]⟩ ∧ ∃ cs' vP' m' ps', A' = rpenA bj cs' vP' m' ps' ∧ cs'.length = 9 ∧ (wrE j at_ bs = 0 → JO Z' cs' (wrJ j hf at_ bs) vP' ps' ∧ m' = (wrJ j hf at_ bs).d.2.length)) := by
 obtain ⟨vB, vE, rfl, hB, hE, hW⟩ := hJ
 obtain ⟨aB, cB, rfl⟩ := hB.form
 obtain ⟨aE, cE, rfl⟩ := hE.form
 obtain ⟨ad, cd, rfl⟩ := hd.form
 obtain ⟨aP, cP, hvP⟩ := hform
 subst hvP
 have hm1 := many_pos hb1
 have hiff := errOf_iff hnu.1 hb1
 unfold rpenA
 refine Cz.fn (f := Tryz.f83) (by kernel_rfl) rfl rfl rfl _ rfl ?_
 (repeat first|refine go ?_|intro _)
 refine Wk.call rfl rfl (Spl.none _) (refBlocks j.nu hd (by omega)) rfl rfl rfl ?_
 rintro v5 Z1 A' hz1 ⟨w, rfl, rfl, hw⟩
 refine Wk.dropr (B := [_, _]) (Sub.refl _) ?_
 by_cases hn9 : 255 < many bs ∨ 2000000000 < j.nu
 ·have hwE : wrE j at_ bs = 5 := by unfold wrE; rw [if_pos hn9]
  have hne : errOf j.nu bs ≠ 0 := fun h => hiff.1 h hn9
  rw [hwE]
  (repeat first|refine go ?_|intro _)
  refine Wk.cond rfl (fun hc => ?_) (fun hc => ?_)
  ·(repeat first|refine go ?_|intro _)
   refine Wk.ret ⟨_, Rs.tmp rfl (Rs.tmp rfl Rs.nil), _, Sub.refl _, rfl, _, _, _, _, rfl, rfl, fun h => by cases h⟩
  ·exfalso; simp at hc; exact hne hc
 have he0 : errOf j.nu bs = 0 := hiff.2 hn9
 have hwl : outB j.nu bs = (List.range (many bs)).map (blk j.nu bs) := by unfold outB; rw [if_pos he0]; rfl
 rw [hwl] at hw
 obtain ⟨us, h5, hall⟩ := hw
 rw [List.length_map, List.length_range] at h5
 obtain ⟨b5, o5, c5, rfl⟩ := Sl.some_ h5 hm1
 (repeat first|refine go ?_|intro _)
 refine Wk.cond rfl (fun hc => ?_) (fun hc => ?_)
 ·exfalso; rw [he0] at hc; cases hc
 clear hc
 (repeat first|refine go ?_|intro _)
 refine Wk.call rfl rfl (Spl.none _) (rHalf2 (by omega)) rfl rfl rfl ?_
 rintro v' Z' A' hz ⟨rfl, rfl, rfl⟩
 (repeat first|refine go ?_|intro _)
 refine Wk.caser 36 rfl (fun hc => ?_) (fun hc => ?_)
 ·have hwE : wrE j at_ bs = 8 := by unfold wrE; rw [if_neg hn9, if_pos (.inl (by simp at hc; omega))]
  rw [hwE]
  (repeat first|refine go ?_|intro _)
  refine Wk.ret ⟨_, Rs.tmp rfl (Rs.tmp rfl Rs.nil), _, Sub.refl _, rfl, _, _, _, _, rfl, rfl, fun h => by cases h⟩
 have hn8 : ¬ j.d.1.length / 2 < at_ + many bs := by simp at hc; omega
 clear hc
 (repeat first|refine go ?_|intro _)
 refine Wk.cond rfl (fun hc => ?_) (fun hc => ?_)
 ·have hwE : wrE j at_ bs = 8 := by unfold wrE; rw [if_neg hn9, if_pos (.inr (by simp at hc; omega))]
  rw [hwE]
  (repeat first|refine go ?_|intro _)
  refine Wk.ret ⟨_, Rs.tmp rfl (Rs.tmp rfl Rs.nil), _, Sub.refl _, rfl, _, _, _, _, rfl, rfl, fun h => by cases h⟩
 have hn7 : ¬ 120 < j.d.2.length + many bs := by simp at hc; omega
 clear hc
 have hwE : wrE j at_ bs = 0 := by unfold wrE; rw [if_neg hn9, if_neg (by omega)]
 rw [hwE, if_pos rfl]
 have hhr : -1000000 ≤ hf * ((j.d.1.length / 2 : Nat) : Int) ∧ hf * ((j.d.1.length / 2 : Nat) : Int) ≤ 1000000 := by rcases hh with rfl | rfl <;> omega
 (repeat first|refine go ?_|intro _)
 refine Wk.loop (fun mm L Z' A' => ∃ (i : Nat) (aP' : Option Addr) (cP' : Nat) (ps' : List Value), i ≤ many bs ∧ mm = many bs - i ∧ Ext Z1 Z' ∧ A' = [ol 2 (.slice aP' (j.d.2.length + i) cP') (j.d.2.length + i) ps', pt bj (.cells [.slice aB j.d.1.length cB, .slice aP' (j.d.2.length + i) cP', .slice aE j.s.length cE, .int .i64 j.h, .int .i64 j.nx, .int .i64 j.nu, .int .i64 j.se, .int .i64 j.co, .int .i64 j.fr] true 0)] ∧
  WA Z' ps' (j.d.2 ++ wrL hf (j.d.1.length / 2) at_ j.nu bs i) ∧ Kp L [(0, .pointer (some ⟨bj, 0, none⟩)), (1, .int .i64 hf), (2, .int .i64 at_), (10, .slice (some ⟨b5, o5, none⟩) (many bs) c5), (12, .int .i64 (j.d.1.length / 2 : Nat)), (13, .int .i64 i)]) (many bs) ⟨0, aP, cP, ps, Nat.zero_le _, rfl, Ext.refl _, rfl, by simp [wrL]; exact hW.mono hz1, kp_⟩ ?_
 rintro mm L Z' A' - ⟨i, aP', cP', ps', hi, rfl, hzz, rfl, hWi, hk⟩
 refine Wk.kp hk ?_
 clear hk
 have h5' := h5.mono hzz
 (repeat first|refine go ?_|intro _)
 refine Wk.cond rfl (fun hc => ?_) (fun hc => ?_)
 ·have hlt : i < many bs := by simp at hc; omega
  clear hc
  obtain ⟨u, k1, k2⟩ := hall.getElem (i := i) (by simpa using hlt)
  have ei : ((List.range (many bs)).map (blk j.nu bs))[i]'(by simpa using hlt) = blk j.nu bs i := by simp
  rw [ei] at k2
  obtain ⟨au, cu, rfl⟩ := k2.form
  have hgi := getCells_one (o := i * 1) (by simpa using k1)
  (repeat first|refine go ?_|intro _)
  refine Wk.drawr (ms := [0, 0, 2, 6, 14, 30, 0, 0, 192, 0, 960, 0, 4032, 0, 0, 24576, 57344, 131008, 262080, 524286, 1048575, 2097151, 4194303, 8388607]) (l := [0, 1, 2, 3, 4, 5, 6, 7, 8, 9, 10, 11, 12, 13, 14, 15, 16, 17, 18, 19, 20, 21, 22, 23]) (by kernel_rfl) (by kernel_rfl) (by kernel_rfl) rfl ?_
  (repeat first|refine go ?_|intro _)
  refine Wk.bs (cs := [.int .i64 (hf * ((j.d.1.length / 2 : Nat) : Int) + (at_ : Nat) + (i : Nat)), .slice au (blk j.nu bs i).length cu]) rfl rfl rfl rfl rfl rfl rfl fun b95 => ?_
  refine Wk.appendD (kk := 1) (new := [.int .i64 (hf * ((j.d.1.length / 2 : Nat) : Int) + (at_ : Nat) + (i : Nat)), .slice au (blk j.nu bs i).length cu]) rfl rfl rfl rfl rfl rfl rfl rfl rem (Src.lit has rfl) rfl rfl rfl (by omega) (by omega) rfl rfl fun v96 => ⟨?_, ?_⟩
  ·exact pnb
  refine Wk.dropr (.keep (.drop (Sub.refl _))) ?_
  first | refine Wk.knowr rem (fun s h => ol.form (v := v96) h) ?_ | refine Wk.know rem (fun s h => ol.form (v := v96) h) ?_
  rintro ⟨a96, c96, rfl⟩
  (repeat first|refine go ?_|intro _)
  refine Wk.store rfl rfl rfl rfl rfl (.tail .head) rfl (by kernel_rfl) rfl ?_
  (repeat first|refine go ?_|intro _)
  refine Wk.inv ⟨_, by omega, i + 1, a96, c96, _, hlt, rfl, hzz, rfl, ?_, kp_⟩
  rw [wrL_succ, ← List.append_assoc, Int.add_assoc, ← Int.natCast_add]
  exact hWi.snoc (w := (hf * ((j.d.1.length / 2 : Nat) : Int) + (at_ + i : Nat), blk j.nu bs i)) (k2.mono hzz)
 have hie : i = many bs := by simp at hc; omega
 subst hie
 clear hc
 (repeat first|refine go ?_|intro _)
 refine Wk.ret ⟨_, Rs.tmp rfl (Rs.tmp rfl Rs.nil), _, Sub.refl _, rfl, _, _, _, _, rfl, rfl, fun _ => ⟨⟨_, _, rfl, hB.mono (hz1.trans hzz), hE.mono (hz1.trans hzz), hWi⟩, by simp [wrJ, wrL_len]⟩⟩
open Classical in
noncomputable def dupF (ls : List Lat) (hf : Int) : Nat → List El → Jn → Nat → Int × Jn × Nat
 | _, [], j, at_ => (0, j, at_)
 | v, e :: r, j, at_ =>
  if e.Bot then dupF ls hf (v + 1) r j at_
  else match ls[v]? with
   | none => (5, j, at_)
   | some l => if BtE l e ≠ 0 then (5, j, at_) else if wrE j at_ (JBy l v e) ≠ 0 then (wrE j at_ (JBy l v e), j, at_) else dupF ls hf (v + 1) r (wrJ j hf at_ (JBy l v e)) (at_ + many (JBy l v e))
theorem dupF_bot {ls : List Lat} {hf : Int} {v at_ : Nat} {e : El} {r : List El} {j : Jn} (h : e.Bot) : dupF ls hf v (e :: r) j at_ = dupF ls hf (v + 1) r j at_ := by rw [dupF, if_pos h]
theorem dupF_big {ls : List Lat} {hf : Int} {v at_ : Nat} {e : El} {r : List El} {j : Jn} {l : Lat} (h : ¬ e.Bot) (hl : ls[v]? = some l) (hb : BtE l e ≠ 0) : dupF ls hf v (e :: r) j at_ = (5, j, at_) := by
 rw [dupF, if_neg h]; simp only [hl]; rw [if_pos hb]
theorem dupF_bad {ls : List Lat} {hf : Int} {v at_ : Nat} {e : El} {r : List El} {j : Jn} {l : Lat} (h : ¬ e.Bot) (hl : ls[v]? = some l) (hb : BtE l e = 0) (hw : wrE j at_ (JBy l v e) ≠ 0) : dupF ls hf v (e :: r) j at_ = (wrE j at_ (JBy l v e), j, at_) := by
 rw [dupF, if_neg h]; simp only [hl]; rw [if_neg (fun k => k hb), if_pos hw]
theorem dupF_go {ls : List Lat} {hf : Int} {v at_ : Nat} {e : El} {r : List El} {j : Jn} {l : Lat} (h : ¬ e.Bot) (hl : ls[v]? = some l) (hb : BtE l e = 0) (hw : wrE j at_ (JBy l v e) = 0) : dupF ls hf v (e :: r) j at_ = dupF ls hf (v + 1) r (wrJ j hf at_ (JBy l v e)) (at_ + many (JBy l v e)) := by
 rw [dupF, if_neg h]; simp only [hl]; rw [if_neg (fun k => k hb), if_neg (fun k => k hw)]
def Jz : Jn := ⟨([], []), [], 0, 0, 0, 0, 0, 0⟩
def zc : List Value := [.slice none 0 0, .slice none 0 0, .slice none 0 0, .int .i64 0, .int .i64 0, .int .i64 0, .int .i64 0, .int .i64 0, .int .i64 0]
theorem JnR.zero {Z : Zone} : JnR Z zc Jz := ⟨_, _, _, rfl, Dk.nil, ⟨[], Sl.nil, by simp [ElRL, Jz]⟩⟩
noncomputable def dupE (ls : List Lat) (j : Jn) : Int := if JnE ls j ≠ 0 then JnE ls j else if 0 < j.d.2.length then 9 else (dupF ls (1 - j.h) 0 j.s j 0).1
noncomputable def dupJ (ls : List Lat) (j : Jn) : Jn := if dupE ls j ≠ 0 then Jz else { (dupF ls (1 - j.h) 0 j.s j 0).2.1 with co := ((dupF ls (1 - j.h) 0 j.s j 0).2.2 : Nat), fr := j.nu }
theorem JnE_zero {ls : List Lat} {j : Jn} (h : JnE ls j = 0) : LsE ls = 0 ∧ JnOk ls j := by
 unfold JnE at h
 split at h
 ·rename_i q; exact absurd h q
 ·rename_i q
  split at h
  ·rename_i r; exact ⟨Classical.not_not.1 q, r⟩
  ·cases h
structure Kpt (j0 jc : Jn) (at_ : Nat) : Prop where
 b : jc.d.1 = j0.d.1
 s : jc.s = j0.s
 p : jc.d.2.length ≤ 1000
 nu : 1 ≤ jc.nu ∧ jc.nu ≤ 2000000001
 at_ : at_ ≤ 1000
 rest : jc.h = j0.h ∧ jc.nx = j0.nx ∧ jc.se = j0.se ∧ jc.co = j0.co ∧ jc.fr = j0.fr
theorem Kpt.wr {j0 jc : Jn} {at_ : Nat} {hf : Int} {bs : List Int} (h : Kpt j0 jc at_) (hl : j0.d.1.length ≤ 1000) (hw : wrE jc at_ bs = 0) : Kpt j0 (wrJ jc hf at_ bs) (at_ + many bs) := by
 unfold wrE at hw
 split at hw
 ·cases hw
 ·split at hw
  ·cases hw
  ·rename_i h1 h2
   have hb := h.b
   have := h.nu
   rw [hb] at h2
   exact ⟨h.b, h.s, by simp only [wrJ, List.length_append, wrL_len]; omega, by simp only [wrJ]; omega, by omega, h.rest⟩
theorem JBy_len (l : Lat) (v : Nat) (e : El) : 1 ≤ (JBy l v e).length ∧ (JBy l v e).length ≤ 100000 := by
 have := BtB_len l e
 unfold JBy
 simp only [List.length_append, List.length_cons, List.length_nil]
 omega
theorem JO.pform {Z : Zone} {cs : List Value} {j : Jn} {vP : Value} {ps : List Value} (h : JO Z cs j vP ps) : ∃ vB vE, cs = [vB, vP, vE, .int .i64 j.h, .int .i64 j.nx, .int .i64 j.nu, .int .i64 j.se, .int .i64 j.co, .int .i64 j.fr] := let ⟨a, b, h1, _⟩ := h; ⟨a, b, h1⟩
theorem bot_kind {l : Lat} {e : El} (h : ElsE l [e] = 0) : e.Bot ↔ e.kind = 0 := by
 constructor
 ·exact fun k => k.1
 ·intro k
  obtain ⟨_, hw, _⟩ := ElsE_one h
  refine El.Bot_iff.2 (Classical.byContradiction fun n => ?_)
  rcases hw.kinds n with q | q | q | q | q | q | q
  ·rw [hw.inv1 n q] at k; exact absurd k (by show ¬ ((1 : Int) = 0); decide)
  ·obtain ⟨m, _, rfl⟩ := hw.inv2 n q; exact absurd k (by show ¬ ((2 : Int) = 0); decide)
  ·rcases hw.inv4 n q with ⟨m, _, rfl⟩ | rfl
   ·exact absurd k (by show ¬ ((2 : Int) = 0); decide)
   ·exact absurd k (by show ¬ ((3 : Int) = 0); decide)
  ·obtain ⟨t, m, _, _, _, rfl⟩ := hw.inv5 n q; exact absurd k (by show ¬ ((4 : Int) = 0); decide)
  ·obtain ⟨m, _, rfl⟩ := hw.inv3 n q; exact absurd k (by show ¬ ((5 : Int) = 0); decide)
  ·obtain ⟨_, _, _, _, _, _, _, rfl⟩ := hw.inv6 n q; exact absurd k (by show ¬ ((6 : Int) = 0); decide)
  ·obtain ⟨_, _, _, _, _, _, _, _, _, rfl⟩ := hw.inv7 n q; exact absurd k (by show ¬ ((7 : Int) = 0); decide)
def CpOut (e : Int) (j : Jn) (v' : Value) (Z' : Zone) : Prop := ∃ cs, v' = .tuple ⟨[.agg ⟨cs⟩, .int .i64 e]⟩ ∧ JnR Z' cs j
theorem jCopy {Z : Zone} {v : Value} {cj : List Value} {ls : List Lat} {j : Jn} {d : Nat} (h : LatsR Z v ls) (hl : LatsTh ls) (hj : JnR Z cj j) (ht : ThinP j.d) (h8 : j.s.length ≤ 8) (hd : j.In d) :
  Cz M (.func (.func 33) #[] #[]) [v, .agg ⟨cj⟩] Z [] (fun v' Z' A' => CpOut (dupE ls j) (dupJ ls j) v' Z' ∧ A' = []) := by
 classical
 obtain ⟨av, cv, rfl⟩ := h.form
 obtain ⟨us0, hs0, hrow⟩ := id h
 have hl8 := hl.few
 have hj0 := hj
 obtain ⟨a1, m1, c1, a2, m2, c2, a3, c3, rfl, hD, hE⟩ := hj.form
 obtain rfl : m2 = j.d.2.length := by
  obtain ⟨_, _, e, _, us, hs, _⟩ := hD
  cases e
  obtain ⟨x, y, e2⟩ := hs.form
  cases e2; rfl
 refine Cz.fn (f := Tryz.f33) (by kernel_rfl) rfl rfl rfl _ rfl ?_
 (repeat first|refine go ?_|intro _)
 rename_i b3 b4
 refine Wk.call rfl rfl (Spl.none _) (CheckJ h hl hj0 ht h8 hd) rfl rfl rfl ?_
 rintro v' Z' A' hz ⟨rfl, rfl, rfl⟩
 by_cases hok : JnE ls j = 0
 rotate_left
 ·have hE1 : dupE ls j = JnE ls j := by unfold dupE; rw [if_pos hok]
  have hJ1 : dupJ ls j = Jz := by unfold dupJ; rw [hE1, if_pos hok]
  rw [hE1, hJ1]
  (repeat first|refine go ?_|intro _)
  refine Wk.caser 18 rfl (fun hc => ?_) (fun hc => ?_)
  ·exfalso; simp at hc; exact hok hc
  (repeat first|refine go ?_|intro _)
  refine Wk.cond rfl (fun hc => ?_) (fun hc => ?_)
  ·(repeat first|refine go ?_|intro _)
   refine Wk.ret ⟨_, Rs.cell rfl rfl has rfl rfl (Rs.tmp rfl Rs.nil), _, Sub.none _, ⟨zc, rfl, JnR.zero⟩, rfl⟩
  ·exfalso; simp at hc; exact hok hc
 obtain ⟨h0, ok⟩ := JnE_zero hok
 rw [hok]
 (repeat first|refine go ?_|intro _)
 refine Wk.cond rfl (fun hc => ?_) (fun hc => ?_)
 ·have hp : 0 < j.d.2.length := by simp at hc; omega
  have hE1 : dupE ls j = 9 := by unfold dupE; rw [if_neg (fun k => k hok), if_pos hp]
  have hJ1 : dupJ ls j = Jz := by unfold dupJ; rw [hE1]; rfl
  rw [hE1, hJ1]
  (repeat first|refine go ?_|intro _)
  refine Wk.ret ⟨_, Rs.cell rfl rfl has rfl rfl (Rs.tmp rfl Rs.nil), _, Sub.none _, ⟨zc, rfl, JnR.zero⟩, rfl⟩
 have hp0 : ¬ 0 < j.d.2.length := by have := of_decide_eq_false hc; omega
 clear hc
 have hE1 : dupE ls j = (dupF ls (1 - j.h) 0 j.s j 0).1 := by unfold dupE; rw [if_neg (fun k => k hok), if_neg hp0]
 have hh : 1 - j.h = 0 ∨ 1 - j.h = 1 := by have := ok.h; omega
 have hjh := ok.h
 have hdl := ok.disk.2.2.1
 have hnu := ok.nu
 (repeat first|refine go ?_|intro _)
 refine Wk.call rfl rfl (Spl.none _) (cloneJ hj0 ht h8 hd) rfl rfl rfl ?_
 rintro v' Z1 A' hz1 ⟨cs, vP, ps, rfl, hJO, rfl⟩
 obtain ⟨vB, vE, rfl, hB1, hE0, hW1⟩ := hJO
 obtain ⟨aB, cB, rfl⟩ := hB1.form
 obtain ⟨aE, cE, rfl⟩ := hE0.form
 first | refine Wk.knowr rem (fun s h => ol.form (v := vP) h) ?_ | refine Wk.know rem (fun s h => ol.form (v := vP) h) ?_
 rintro ⟨aP, cP, rfl⟩
 refine Wk.dropr (B := [ol 2 (.slice aP j.d.2.length cP) j.d.2.length ps, jz b4, pt b3 (.cells [.slice a1 m1 c1, .slice a2 j.d.2.length c2, .slice a3 j.s.length c3, .int .i64 j.h, .int .i64 j.nx, .int .i64 j.nu, .int .i64 j.se, .int .i64 j.co, .int .i64 j.fr] true 0)]) (Sub.refl _) ?_
 (repeat first|refine go ?_|intro _)
 rename_i bj bw
 refine Wk.alter (x := ol 2 (.slice aP j.d.2.length cP) j.d.2.length ps) (C := [ol 2 (.slice aP j.d.2.length cP) j.d.2.length ps]) rem (fun s h => Sat.one h) ?_
 have hs1 := hs0.mono hz1
 obtain ⟨usE, hsE, hLE⟩ := hE0
 have hK0 : Kpt j j 0 := ⟨rfl, rfl, by omega, by omega, by omega, rfl, rfl, rfl, rfl, rfl⟩
 refine Wk.loop (fun mm L Z' A' => ∃ (i at_ : Nat) (jc : Jn) (aP' : Option Addr) (cP' : Nat) (aE' : Value) (aB' : Value) (ps' : List Value), i ≤ j.s.length ∧ mm = j.s.length - i ∧ Ext Z1 Z' ∧
  Sub A' (penA bw bj (1 - j.h) at_ [aB', .slice aP' jc.d.2.length cP', aE', .int .i64 jc.h, .int .i64 jc.nx, .int .i64 jc.nu, .int .i64 jc.se, .int .i64 jc.co, .int .i64 jc.fr] (.slice aP' jc.d.2.length cP') jc.d.2.length ps' ++ [jz b4, pt b3 (.cells [.slice a1 m1 c1, .slice a2 j.d.2.length c2, .slice a3 j.s.length c3, .int .i64 j.h, .int .i64 j.nx, .int .i64 j.nu, .int .i64 j.se, .int .i64 j.co, .int .i64 j.fr] true 0)]) ∧
  JO Z' [aB', .slice aP' jc.d.2.length cP', aE', .int .i64 jc.h, .int .i64 jc.nx, .int .i64 jc.nu, .int .i64 jc.se, .int .i64 jc.co, .int .i64 jc.fr] jc (.slice aP' jc.d.2.length cP') ps' ∧ Kpt j jc at_ ∧ dupF ls (1 - j.h) i (j.s.drop i) jc at_ = dupF ls (1 - j.h) 0 j.s j 0 ∧
  Kp L [(0, .slice av ls.length cv), (3, .pointer (some ⟨b3, 0, none⟩)), (4, .pointer (some ⟨b4, 0, none⟩)), (7, .pointer (some ⟨bj, 0, none⟩)), (8, .pointer (some ⟨bw, 0, none⟩)), (37, .slice aE j.s.length cE), (38, .int .i64 j.s.length), (39, .int .i64 i)]) j.s.length
  ⟨0, 0, j, aP, cP, .slice aE j.s.length cE, .slice aB j.d.1.length cB, ps, Nat.zero_le _, rfl, Ext.refl _, Sub.refl _, ⟨_, _, rfl, hB1, ⟨usE, hsE, hLE⟩, hW1⟩, hK0, rfl, kp_⟩ ?_
 rintro mm L Z' A' - ⟨i, at_, jc, aP', cP', aE', aB', ps', hi, rfl, hzz, hsub, hJc, hK, hdup, hk⟩
 refine Wk.drop hsub ?_
 clear hsub
 refine Wk.kp hk ?_
 clear hk
 have hsE' := hsE.mono hzz
 have hs1' := hs1.mono hzz
 (repeat first|refine go ?_|intro _)
 refine Wk.cond rfl (fun hc => ?_) (fun hc => ?_)
 ·have hlt : i < j.s.length := by simp at hc; omega
  have hlt2 : i < ls.length := by have := ok.many; omega
  clear hc
  obtain ⟨k, n, x1, n1, y1, x2, n2, y2, gi, qi⟩ := hLE.get i hlt
  obtain ⟨csl, g1, g2⟩ := hrow i hlt2
  obtain ⟨p1, r1, p2, r2, rfl, t1, t2⟩ := g2.form
  have hEi := ok.each i hlt2 hlt
  have hbk := bot_kind hEi
  have hlg : ls[i]? = some ls[i] := List.getElem?_eq_getElem hlt2
  obtain ⟨_, _, _, _, _, ecs, _, _, _⟩ := qi.form
  have ek : k = (j.s[i]).kind := by injection ecs with e1 _; injection e1
  have ed : j.s.drop i = j.s[i] :: j.s.drop (i + 1) := List.drop_eq_getElem_cons hlt
  rw [ed] at hdup
  (repeat first|refine go ?_|intro _)
  refine Wk.cond rfl (fun hc => ?_) (fun hc => ?_)
  ·have hb : (j.s[i]).Bot := hbk.2 (by rw [← ek]; simpa using hc)
   rw [dupF_bot hb] at hdup
   (repeat first|refine go ?_|intro _)
   exact Wk.inv ⟨_, by omega, i + 1, at_, jc, aP', cP', aE', aB', ps', hlt, rfl, hzz, .drop (Sub.refl _), hJc, hK, hdup, kp_⟩
  have hnb : ¬ (j.s[i]).Bot := fun q => by have := hbk.1 q; rw [← ek] at this; simp [this] at hc
  clear hc
  rename_i b10
  (repeat first|refine go ?_|intro _)
  refine Wk.drawr (ms := [0, 0, 3, 7, 0, 0, 63, 127, 255, 255, 511, 2047]) (l := [0, 1, 2, 3, 4, 5, 6, 7, 8, 9, 10, 11]) (by kernel_rfl) (by kernel_rfl) (by kernel_rfl) rfl ?_
  (repeat first|refine go ?_|intro _)
  refine Wk.callD rfl rfl (Spl.none _) (jjoin (v := i) ((g2.mono hz1).mono hzz) (hl.each i hlt2) (qi.mono hzz) (hd i hlt)) rfl rfl fun v54 Z2 A' hz2 hq => ?_
  obtain ⟨w, rfl, rfl, hw⟩ := hq
  refine ⟨?_, ?_⟩
  ·exact pnb
  obtain ⟨aw, cw, rfl⟩ := hw.form
  refine Wk.dropr (B := pt b10 _ :: (penA bw bj (1 - j.h) at_ [aB', .slice aP' jc.d.2.length cP', aE', .int .i64 jc.h, .int .i64 jc.nx, .int .i64 jc.nu, .int .i64 jc.se, .int .i64 jc.co, .int .i64 jc.fr] (.slice aP' jc.d.2.length cP') jc.d.2.length ps' ++ [jz b4, pt b3 (.cells [.slice a1 m1 c1, .slice a2 j.d.2.length c2, .slice a3 j.s.length c3, .int .i64 j.h, .int .i64 j.nx, .int .i64 j.nu, .int .i64 j.se, .int .i64 j.co, .int .i64 j.fr] true 0)])) (Sub.refl _) ?_
  (repeat first|refine go ?_|intro _)
  have hBt : BtE ls[i] j.s[i] = 0 ∨ BtE ls[i] j.s[i] = 5 := by
   unfold BtE; rw [if_neg (fun k => k hEi)]; split
   ·exact .inr rfl
   ·exact .inl rfl
  have eHJ : dupE ls j ≠ 0 → dupJ ls j = Jz := fun k => by unfold dupJ; rw [if_pos k]
  obtain ⟨hbl1, hbl2⟩ := JBy_len ls[i] i j.s[i]
  refine Wk.cond rfl (fun hc => ?_) (fun hc => ?_)
  rotate_left
  ·have hne : BtE ls[i] j.s[i] ≠ 0 := fun q => by simp [q] at hc
   have h5 : BtE ls[i] j.s[i] = 5 := hBt.resolve_left hne
   rw [dupF_big hnb hlg hne] at hdup
   have hE5 : dupE ls j = 5 := by rw [hE1, ← hdup]
   rw [hE5, eHJ (by rw [hE5]; decide)]
   refine Wk.tell 12 (.int .i64 5) rfl (by rw [← h5]; rfl) ?_
   (repeat first|refine go ?_|intro _)
   refine Wk.ret ⟨_, Rs.cell rfl rfl has rfl rfl (Rs.tmp rfl Rs.nil), _, Sub.none _, ⟨zc, rfl, JnR.zero⟩, rfl⟩
  have hb0 : BtE ls[i] j.s[i] = 0 := by rcases hBt with q | q; exact q; simp [q] at hc
  clear hc
  (repeat first|refine go ?_|intro _)
  refine Wk.call rfl rfl (.r (.l (.l (.l (.r (.r .nil)))))) (penWrite (hJc.mono hz2) hw hbl1 hbl2 (by have := hK.nu; omega) hh hK.at_ ⟨_, _, rfl⟩ (by rw [hK.b]; omega) hK.p) rfl rfl rfl ?_
  rintro v61 Z3 A' hz3 ⟨rfl, at', cs', vP', m', ps'', rfl, hcs, hgood⟩
  first | refine Wk.knowr rem (fun s h => ol.form (v := vP') h) ?_ | refine Wk.know rem (fun s h => ol.form (v := vP') h) ?_
  rintro ⟨aQ, cQ, rfl⟩
  have hz23 := hzz.trans (hz2.trans hz3)
  by_cases hw0 : wrE jc at_ (JBy ls[i] i j.s[i]) = 0
  rotate_left
  ·rw [dupF_bad hnb hlg hb0 hw0] at hdup
   have hE5 : dupE ls j = wrE jc at_ (JBy ls[i] i j.s[i]) := by rw [hE1, ← hdup]
   rw [hE5, eHJ (by rw [hE5]; exact hw0)]
   (repeat first|refine go ?_|intro _)
   refine Wk.cond rfl (fun hc => ?_) (fun hc => ?_)
   ·(repeat first|refine go ?_|intro _)
    refine Wk.ret ⟨_, Rs.cell rfl rfl has rfl rfl (Rs.tmp rfl Rs.nil), _, Sub.none _, ⟨zc, rfl, JnR.zero⟩, rfl⟩
   ·exfalso; simp at hc; exact hw0 hc
  obtain ⟨rfl, hJ', rfl⟩ := hgood hw0
  rw [dupF_go hnb hlg hb0 hw0] at hdup
  have hK' := hK.wr (hf := 1 - j.h) (by omega) hw0
  obtain ⟨vB', vE', rfl⟩ := hJ'.pform
  rw [hw0]
  (repeat first|refine go ?_|intro _)
  exact Wk.inv ⟨_, by omega, i + 1, _, wrJ jc (1 - j.h) at_ (JBy ls[i] i j.s[i]), aQ, cQ, vE', vB', ps'', hlt, rfl, hz23, .keep (.keep (.keep (.drop (Sub.refl _)))), hJ', hK', hdup, kp_⟩
 have hie : i = j.s.length := by simp at hc; omega
 subst hie
 clear hc
 rw [List.drop_length, dupF] at hdup
 have hE0' : dupE ls j = 0 := by rw [hE1, ← hdup]
 have hJ1 : dupJ ls j = { jc with co := (at_ : Nat), fr := j.nu } := by unfold dupJ; rw [if_neg (by rw [hE0']; simp), ← hdup]
 rw [hE0', hJ1]
 obtain ⟨vB', vE', ecs, hB', hE', hW'⟩ := hJc
 cases ecs
 obtain ⟨xB, yB, rfl⟩ := hB'.form
 obtain ⟨xE, yE, rfl⟩ := hE'.form
 refine Wk.olFreeze (v := .slice aP' jc.d.2.length cP') Rem.head fun Z4 e4 hP => ?_
 (repeat first|refine go ?_|intro _)
 refine Wk.drawr (ms := [0, 1, 3, 7, 0, 16, 15, 79, 255, 511]) (l := [0, 1, 2, 3, 4, 5, 6, 7, 8, 9]) (by kernel_rfl) (by kernel_rfl) (by kernel_rfl) rfl ?_
 (repeat first|refine go ?_|intro _)
 refine Wk.dropr (B := [pt bw (.cells [.pointer (some ⟨bj, 0, none⟩), .int .i64 (1 - j.h), .int .i64 at_] true 0), pt bj (.cells [.slice xB jc.d.1.length yB, .slice aP' jc.d.2.length cP', .slice xE jc.s.length yE, .int .i64 jc.h, .int .i64 jc.nx, .int .i64 jc.nu, .int .i64 jc.se, .int .i64 jc.co, .int .i64 jc.fr] true 0), jz b4, pt b3 (.cells [.slice a1 m1 c1, .slice a2 j.d.2.length c2, .slice a3 j.s.length c3, .int .i64 j.h, .int .i64 j.nx, .int .i64 j.nu, .int .i64 j.se, .int .i64 j.co, .int .i64 j.fr] true 0)]) (Sub.refl _) ?_
 refine Wk.storeD rfl rfl rfl rfl rfl (.tail .head) rfl rfl ⟨?_, ?_⟩
 ·exact pnb
 (repeat first|refine go ?_|intro _)
 refine Wk.store rfl rfl rfl rfl rfl (.tail .head) rfl (by kernel_rfl) rfl ?_
 (repeat first|refine go ?_|intro _)
 refine Wk.ret ⟨_, Rs.cell rfl rfl has rfl rfl (Rs.tmp rfl Rs.nil), _, Sub.none _, ⟨_, rfl, _, _, _, rfl, ⟨_, _, rfl, hB'.mono e4, Wrs.of hP (hW'.mono e4)⟩, hE'.mono e4⟩, rfl⟩
end Go.Proofs.J
