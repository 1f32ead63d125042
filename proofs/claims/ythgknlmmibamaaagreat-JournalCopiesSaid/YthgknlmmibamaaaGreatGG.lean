/- GG -/
import Derived.Test.YthgknlmmibamaaaGreatEvF
import Derived.Test.YthgknlmmibamaaaGreatGA
import Derived.Test.YthgknlmmibamaaaGreatEA
import Derived.Test.YthgknlmmibamaaaGreatEM
namespace Go.Proofs.J
attribute [local irreducible] Go.Ev.Wk
open Go.Ev Go
set_option linter.unusedVariables false
set_option maxHeartbeats 4000000
theorem rDuplicate {Z : Zone} {v : Value} {cj : List Value} {ls : List Lat} {j : Jn} {d : Nat} (h : LatsR Z v ls) (hl : LatsTh ls) (hj : JnR Z cj j) (ht : ThinP j.d) (h8 : j.s.length ≤ 8) (hd : j.In d) :
  Cz M (.func (.func 35) #[] #[]) [v, .agg ⟨cj⟩] Z [] (fun v' Z' A' => CpOut (dupE ls j) (dupJ ls j) v' Z' ∧ A' = []) := by
 classical
 obtain ⟨av, cv, rfl⟩ := h.form
 obtain ⟨us0, hs0, hrow⟩ := id h
 have hl8 := hl.few
 have hj0 := hj
 obtain ⟨a1, m1, c1, a2, m2, c2, a3, c3, rfl, hD, hE⟩ := hj.form
 obtain rfl : m2 = j.d.2.length := by
  obtain ⟨_, _, e, _, us, hs, _⟩ := hD
  cases e
  obtain ⟨x, y, e2⟩ := hs.form
  cases e2; rfl
 obtain ⟨usS, hsS, hLS⟩ := id hE
 refine Cz.fn (f := Tryz.f35) (by kernel_rfl) rfl rfl rfl _ rfl ?_
 (repeat first|refine go ?_|intro _)
 rename_i b3 b4
 refine Wk.call rfl rfl (Spl.none _) (rCheckJ h hl hj0 ht h8 hd) rfl rfl rfl ?_
 rintro v' Z' A' hz ⟨rfl, rfl, rfl⟩
 by_cases hok : JnE ls j = 0
 rotate_left
 ·have hE1 : dupE ls j = JnE ls j := by unfold dupE; rw [if_pos hok]
  have hJ1 : dupJ ls j = Jz := by unfold dupJ; rw [hE1, if_pos hok]
  rw [hE1, hJ1]
  (repeat first|refine go ?_|intro _)
  refine Wk.cond rfl (fun hc => ?_) (fun hc => ?_)
  ·(repeat first|refine go ?_|intro _)
   refine Wk.ret ⟨_, Rs.cell rfl rfl has rfl rfl (Rs.tmp rfl Rs.nil), _, Sub.none _, ⟨zc, rfl, JnR.zero⟩, rfl⟩
  ·exfalso; simp at hc; exact hok hc
 obtain ⟨h0, ok⟩ := JnE_zero hok
 rw [hok]
 (repeat first|refine go ?_|intro _)
 refine Wk.cond rfl (fun hc => ?_) (fun hc => ?_)
 ·have hp : 0 < j.d.2.length := by have := of_decide_eq_true hc; omega
  have hE1 : dupE ls j = 9 := by unfold dupE; rw [if_neg (fun k => k hok), if_pos hp]
  have hJ1 : dupJ ls j = Jz := by unfold dupJ; rw [hE1]; rfl
  rw [hE1, hJ1]
  (repeat first|refine go ?_|intro _)
  refine Wk.ret ⟨_, Rs.cell rfl rfl has rfl rfl (Rs.tmp rfl Rs.nil), _, Sub.none _, ⟨zc, rfl, JnR.zero⟩, rfl⟩
 have hp0 : ¬ 0 < j.d.2.length := by have := of_decide_eq_false hc; omega
 clear hc
 have hE1 : dupE ls j = (dupF ls (1 - j.h) 0 j.s j 0).1 := by unfold dupE; rw [if_neg (fun k => k hok), if_neg hp0]
 have hh : 1 - j.h = 0 ∨ 1 - j.h = 1 := by have := ok.h; omega
 have hjh := ok.h
 have hdl := ok.disk.2.2.1
 have hnu := ok.nu
 (repeat first|refine go ?_|intro _)
 refine Wk.call rfl rfl (Spl.none _) (copyJ2 hj0 ht h8 hd) rfl rfl rfl ?_
 rintro v' Z1 A' hz1 ⟨cs, vP, ps, rfl, hJO, rfl⟩
 obtain ⟨vB, vE, rfl, hB1, hE0, hW1⟩ := hJO
 obtain ⟨aB, cB, rfl⟩ := hB1.form
 obtain ⟨aE, cE, rfl⟩ := hE0.form
 first | refine Wk.knowr rem (fun s h => ol.form (v := vP) h) ?_ | refine Wk.know rem (fun s h => ol.form (v := vP) h) ?_
 rintro ⟨aP, cP, rfl⟩
 refine Wk.dropr (B := [ol 2 (.slice aP j.d.2.length cP) j.d.2.length ps, jz b4, pt b3 (.cells [.slice a1 m1 c1, .slice a2 j.d.2.length c2, .slice a3 j.s.length c3, .int .i64 j.h, .int .i64 j.nx, .int .i64 j.nu, .int .i64 j.se, .int .i64 j.co, .int .i64 j.fr] true 0)]) (Sub.refl _) ?_
 (repeat first|refine go ?_|intro _)
 rename_i bj
 refine Wk.alter (x := ol 2 (.slice aP j.d.2.length cP) j.d.2.length ps) (C := [ol 2 (.slice aP j.d.2.length cP) j.d.2.length ps]) rem (fun s h => Sat.one h) ?_
 have hs1 := hs0.mono hz1
 obtain ⟨usE, hsE, hLE⟩ := hE0
 have hK0 : Kpt j j 0 := ⟨rfl, rfl, by omega, by omega, by omega, rfl, rfl, rfl, rfl, rfl⟩
 refine Wk.loop (fun mm L Z' A' => ∃ (i at_ : Nat) (jc : Jn) (aP' : Option Addr) (cP' : Nat) (aE' : Value) (aB' : Value) (ps' : List Value), i ≤ ls.length ∧ mm = ls.length - i ∧ Ext Z1 Z' ∧
  Sub A' (rpenA bj [aB', .slice aP' jc.d.2.length cP', aE', .int .i64 jc.h, .int .i64 jc.nx, .int .i64 jc.nu, .int .i64 jc.se, .int .i64 jc.co, .int .i64 jc.fr] (.slice aP' jc.d.2.length cP') jc.d.2.length ps' ++ [jz b4, pt b3 (.cells [.slice a1 m1 c1, .slice a2 j.d.2.length c2, .slice a3 j.s.length c3, .int .i64 j.h, .int .i64 j.nx, .int .i64 j.nu, .int .i64 j.se, .int .i64 j.co, .int .i64 j.fr] true 0)]) ∧
  JO Z' [aB', .slice aP' jc.d.2.length cP', aE', .int .i64 jc.h, .int .i64 jc.nx, .int .i64 jc.nu, .int .i64 jc.se, .int .i64 jc.co, .int .i64 jc.fr] jc (.slice aP' jc.d.2.length cP') ps' ∧ Kpt j jc at_ ∧ dupF ls (1 - j.h) i (j.s.drop i) jc at_ = dupF ls (1 - j.h) 0 j.s j 0 ∧
  Kp L [(0, .slice av ls.length cv), (3, .pointer (some ⟨b3, 0, none⟩)), (4, .pointer (some ⟨b4, 0, none⟩)), (7, .pointer (some ⟨bj, 0, none⟩)), (8, .int .i64 at_), (9, .int .i64 i)]) ls.length
  ⟨0, 0, j, aP, cP, .slice aE j.s.length cE, .slice aB j.d.1.length cB, ps, Nat.zero_le _, rfl, Ext.refl _, Sub.refl _, ⟨_, _, rfl, hB1, ⟨usE, hsE, hLE⟩, hW1⟩, hK0, rfl, kp_⟩ ?_
 rintro mm L Z' A' - ⟨i, at_, jc, aP', cP', aE', aB', ps', hi, rfl, hzz, hsub, hJc, hK, hdup, hk⟩
 refine Wk.drop hsub ?_
 clear hsub
 refine Wk.kp hk ?_
 clear hk
 have hsS' := hsS.mono (hz1.trans hzz)
 have hs1' := hs1.mono hzz
 have hmm := ok.many
 (repeat first|refine go ?_|intro _)
 refine Wk.cond rfl (fun hc => ?_) (fun hc => ?_)
 ·have hlt2 : i < ls.length := by have := of_decide_eq_true hc; omega
  have hlt : i < j.s.length := by omega
  clear hc
  obtain ⟨k, n, x1, n1, y1, x2, n2, y2, gi, qi⟩ := hLS.get i hlt
  obtain ⟨csl, g1, g2⟩ := hrow i hlt2
  obtain ⟨p1, r1, p2, r2, rfl, t1, t2⟩ := g2.form
  have hEi := ok.each i hlt2 hlt
  have hlg : ls[i]? = some ls[i] := List.getElem?_eq_getElem hlt2
  have ed : j.s.drop i = j.s[i] :: j.s.drop (i + 1) := List.drop_eq_getElem_cons hlt
  rw [ed] at hdup
  (repeat first|refine go ?_|intro _)
  refine Wk.call rfl rfl (Spl.none _) (rIsBottom (qi.mono (hz1.trans hzz))) rfl rfl rfl ?_
  rintro v39 Z' A' hz' ⟨⟨b, rfl, hb⟩, rfl, rfl⟩
  (repeat first|refine go ?_|intro _)
  refine Wk.cond rfl (fun hc => ?_) (fun hc => ?_)
  ·rw [dupF_bot (hb.1 hc)] at hdup
   (repeat first|refine go ?_|intro _)
   exact Wk.inv ⟨_, by omega, i + 1, at_, jc, aP', cP', aE', aB', ps', hlt2, rfl, hzz, Sub.refl _, hJc, hK, hdup, kp_⟩
  have hnb : ¬ (j.s[i]).Bot := fun q => by rw [hb.2 q] at hc; cases hc
  clear hc
  (repeat first|refine go ?_|intro _)
  refine Wk.drawr (ms := [0, 0, 3, 7, 0, 0, 32, 0, 224, 480, 1008, 2047, 4095, 8191, 8191, 16383, 65535]) (l := [0, 1, 2, 3, 4, 5, 6, 7, 8, 9, 10, 11, 12, 13, 14, 15, 16]) (by kernel_rfl) (by kernel_rfl) (by kernel_rfl) rfl ?_
  (repeat first|refine go ?_|intro _)
  refine Wk.callD rfl rfl (Spl.none _) (rjoin (v := i) ((g2.mono hz1).mono hzz) (hl.each i hlt2) (qi.mono (hz1.trans hzz)) (hd i hlt)) rfl rfl fun v54 Z2 A' hz2 hq => ?_
  obtain ⟨w, rfl, rfl, hw⟩ := hq
  refine ⟨?_, ?_⟩
  ·exact pnb
  obtain ⟨aw, cw, rfl⟩ := hw.form
  refine Wk.dropr (B := rpenA bj [aB', .slice aP' jc.d.2.length cP', aE', .int .i64 jc.h, .int .i64 jc.nx, .int .i64 jc.nu, .int .i64 jc.se, .int .i64 jc.co, .int .i64 jc.fr] (.slice aP' jc.d.2.length cP') jc.d.2.length ps' ++ [jz b4, pt b3 (.cells [.slice a1 m1 c1, .slice a2 j.d.2.length c2, .slice a3 j.s.length c3, .int .i64 j.h, .int .i64 j.nx, .int .i64 j.nu, .int .i64 j.se, .int .i64 j.co, .int .i64 j.fr] true 0)]) (Sub.refl _) ?_
  (repeat first|refine go ?_|intro _)
  have hBt : BtE ls[i] j.s[i] = 0 ∨ BtE ls[i] j.s[i] = 5 := by
   unfold BtE; rw [if_neg (fun k => k hEi)]; split
   ·exact .inr rfl
   ·exact .inl rfl
  have eHJ : dupE ls j ≠ 0 → dupJ ls j = Jz := fun k => by unfold dupJ; rw [if_pos k]
  obtain ⟨hbl1, hbl2⟩ := JBy_len ls[i] i j.s[i]
  refine Wk.cond rfl (fun hc => ?_) (fun hc => ?_)
  ·have hne : BtE ls[i] j.s[i] ≠ 0 := fun q => by simp [q] at hc
   rw [dupF_big hnb hlg hne] at hdup
   have hE5 : dupE ls j = 5 := by rw [hE1, ← hdup]
   rw [hE5, eHJ (by rw [hE5]; decide)]
   (repeat first|refine go ?_|intro _)
   refine Wk.ret ⟨_, Rs.cell rfl rfl has rfl rfl (Rs.tmp rfl Rs.nil), _, Sub.none _, ⟨zc, rfl, JnR.zero⟩, rfl⟩
  have hb0 : BtE ls[i] j.s[i] = 0 := by rcases hBt with q | q; exact q; simp [q] at hc
  clear hc
  have hjch : jc.h = j.h := hK.rest.1
  (repeat first|refine go ?_|intro _)
  refine Wk.tellr 61 (.int .i64 (1 - j.h)) rfl (by rw [hjch]) ?_
  refine Wk.call rfl rfl (.l (.l (.r (.r .nil)))) (refWrite (hJc.mono hz2) hw hbl1 hbl2 (by have := hK.nu; omega) hh hK.at_ ⟨_, _, rfl⟩ (by rw [hK.b]; omega) hK.p) rfl rfl rfl ?_
  rintro v61 Z3 A' hz3 ⟨rfl, cs', vP', m', ps'', rfl, hcs, hgood⟩
  first | refine Wk.knowr rem (fun s h => ol.form (v := vP') h) ?_ | refine Wk.know rem (fun s h => ol.form (v := vP') h) ?_
  rintro ⟨aQ, cQ, rfl⟩
  have hz23 := hzz.trans (hz2.trans hz3)
  by_cases hw0 : wrE jc at_ (JBy ls[i] i j.s[i]) = 0
  rotate_left
  ·rw [dupF_bad hnb hlg hb0 hw0] at hdup
   have hE5 : dupE ls j = wrE jc at_ (JBy ls[i] i j.s[i]) := by rw [hE1, ← hdup]
   rw [hE5, eHJ (by rw [hE5]; exact hw0)]
   (repeat first|refine go ?_|intro _)
   refine Wk.cond rfl (fun hc => ?_) (fun hc => ?_)
   ·(repeat first|refine go ?_|intro _)
    refine Wk.ret ⟨_, Rs.cell rfl rfl has rfl rfl (Rs.tmp rfl Rs.nil), _, Sub.none _, ⟨zc, rfl, JnR.zero⟩, rfl⟩
   ·exfalso; simp at hc; exact hw0 hc
  obtain ⟨hJ', rfl⟩ := hgood hw0
  rw [dupF_go hnb hlg hb0 hw0] at hdup
  have hK' := hK.wr (hf := 1 - j.h) (by omega) hw0
  have hK'a := hK'.at_
  obtain ⟨vB', vE', rfl⟩ := hJ'.pform
  rw [hw0, if_pos rfl]
  (repeat first|refine go ?_|intro _)
  exact Wk.inv ⟨_, by omega, i + 1, at_ + many (JBy ls[i] i j.s[i]), wrJ jc (1 - j.h) at_ (JBy ls[i] i j.s[i]), aQ, cQ, vE', vB', ps'', hlt2, rfl, hz23, Sub.refl _, hJ', hK', hdup, kp_⟩
 have hie : i = ls.length := by have := of_decide_eq_false hc; omega
 subst hie
 clear hc
 rw [show j.s.drop ls.length = [] from List.drop_eq_nil_of_le (by omega), dupF] at hdup
 have hE0' : dupE ls j = 0 := by rw [hE1, ← hdup]
 have hJ1 : dupJ ls j = { jc with co := (at_ : Nat), fr := j.nu } := by unfold dupJ; rw [if_neg (by rw [hE0']; simp), ← hdup]
 rw [hE0', hJ1]
 obtain ⟨vB', vE', ecs, hB', hE', hW'⟩ := hJc
 cases ecs
 obtain ⟨xB, yB, rfl⟩ := hB'.form
 obtain ⟨xE, yE, rfl⟩ := hE'.form
 refine Wk.olFreeze (v := .slice aP' jc.d.2.length cP') Rem.head fun Z4 e4 hP => ?_
 (repeat first|refine go ?_|intro _)
 refine Wk.drawr (ms := [0, 0, 2, 1, 9, 31, 63]) (l := [0, 1, 2, 3, 4, 5, 6]) (by kernel_rfl) (by kernel_rfl) (by kernel_rfl) rfl ?_
 (repeat first|refine go ?_|intro _)
 refine Wk.dropr (B := [pt bj (.cells [.slice xB jc.d.1.length yB, .slice aP' jc.d.2.length cP', .slice xE jc.s.length yE, .int .i64 jc.h, .int .i64 jc.nx, .int .i64 jc.nu, .int .i64 jc.se, .int .i64 jc.co, .int .i64 jc.fr] true 0), jz b4, pt b3 (.cells [.slice a1 m1 c1, .slice a2 j.d.2.length c2, .slice a3 j.s.length c3, .int .i64 j.h, .int .i64 j.nx, .int .i64 j.nu, .int .i64 j.se, .int .i64 j.co, .int .i64 j.fr] true 0)]) (Sub.refl _) ?_
 refine Wk.storeD rfl rfl rfl rfl rfl .head rfl rfl ⟨?_, ?_⟩
 ·exact pnb
 (repeat first|refine go ?_|intro _)
 refine Wk.store rfl rfl rfl rfl rfl .head rfl (by kernel_rfl) rfl ?_
 (repeat first|refine go ?_|intro _)
 refine Wk.ret ⟨_, Rs.cell rfl rfl has rfl rfl (Rs.tmp rfl Rs.nil), _, Sub.none _, ⟨_, rfl, _, _, _, rfl, ⟨_, _, rfl, hB'.mono e4, Wrs.of hP (hW'.mono e4)⟩, hE'.mono e4⟩, rfl⟩
def slB (a : Int) : List Int := [2] ++ four a
theorem slB_len (a : Int) : (slB a).length = 5 := rfl
theorem slB_many (a : Int) : many (slB a) = 1 := by unfold many; rw [slB_len]
theorem sealG {Z : Zone} (a : Int) : Cz M (.func (.func 88) #[] #[]) [.int .i64 a] Z [] (fun v Z' A' => Sl Z' 1 v (slB a).length (by8 (slB a)) ∧ A' = []) := by
 refine Cz.fn (f := Tryz.f88) (by kernel_rfl) rfl rfl rfl _ rfl ?_
 (repeat first|refine go ?_|intro _)
 refine Wk.bs rfl rfl rfl rfl rfl rfl rfl fun b3 => ?_
 (repeat first|refine go ?_|intro _)
 refine Wk.call rfl rfl (Spl.none _) (number a) rfl rfl rfl ?_
 rintro v5 Z' A' hz ⟨rfl, rfl⟩
 first | apply Wk.olFreezer (v := v5) | apply Wk.olFreeze (v := v5)
 case p => exact rem
 intro Z1 e1 h5
 refine Wk.alterr (C := [ol 1 (.slice (some ⟨b3, 0, none⟩) 1 1) 1 [.int .u8 2]]) rem (fun s h => ol_of_pt (m := 1) (vs := [.int .u8 2]) (g := 0) rfl (.inl rfl) rfl h) ?_
 refine Wk.append rfl rfl rfl rfl rfl rfl rfl rfl Rem.head (Src.sl h5) rfl (ok8 _) rfl (by omega) (by omega) rfl rfl rfl fun v6 => ?_
 first | apply Wk.olFreezer (v := v6) | apply Wk.olFreeze (v := v6)
 case p => exact rem
 intro Z2 e2 h6
 (repeat first|refine go ?_|intro _)
 refine Wk.ret ⟨_, Rs.tmp rfl Rs.nil, _, Sub.none _, h6, rfl⟩
theorem four107b {Z : Zone} (a : Int) (h0 : 0 ≤ a) (h1 : a ≤ 4000000000) : Cz M (.func (.func 144) #[] #[]) [.int .i64 a] Z [] (fun v Z' A' => Z = Z' ∧ A' = [ol 1 v 4 (by8 (four a))]) := by
 refine Cz.fn (f := Tryz.f144) (by kernel_rfl) rfl rfl rfl _ rfl ?_
 (repeat first|refine go ?_|intro _)
 refine Wk.bs rfl rfl rfl rfl rfl rfl rfl fun b => ?_
 (repeat first|refine go ?_|intro _)
 refine Wk.alter (C := [ol 1 (.slice (some ⟨b, 0, none⟩) 4 4) 4 (by8 (four a))]) rem (fun s h => ?_) ?_
 ·refine ol_of_pt (g := 0) rfl (.inl rfl) (okCells_by8 _) ?_
  simp only [by8, four, List.map]
  simp only [Int.emod_emod] at h
  exact h
 ·refine Wk.ret ?_
  exact ⟨_, Rs.tmp rfl Rs.nil, _, Sub.refl _, rfl, rfl⟩
theorem rsealG {Z : Zone} (a : Int) (h0 : 0 ≤ a) (h1 : a ≤ 4000000000) : Cz M (.func (.func 89) #[] #[]) [.int .i64 a] Z [] (fun v Z' A' => Sl Z' 1 v (slB a).length (by8 (slB a)) ∧ A' = []) := by
 refine Cz.fn (f := Tryz.f89) (by kernel_rfl) rfl rfl rfl _ rfl ?_
 (repeat first|refine go ?_|intro _)
 refine Wk.bs rfl rfl rfl rfl rfl rfl rfl fun b3 => ?_
 (repeat first|refine go ?_|intro _)
 refine Wk.call rfl rfl (Spl.none _) (four107b a h0 h1) rfl rfl rfl ?_
 rintro v5 Z' A' hz ⟨rfl, rfl⟩
 first | apply Wk.olFreezer (v := v5) | apply Wk.olFreeze (v := v5)
 case p => exact rem
 intro Z1 e1 h5
 refine Wk.alterr (C := [ol 1 (.slice (some ⟨b3, 0, none⟩) 1 1) 1 [.int .u8 2]]) rem (fun s h => ol_of_pt (m := 1) (vs := [.int .u8 2]) (g := 0) rfl (.inl rfl) rfl h) ?_
 refine Wk.append rfl rfl rfl rfl rfl rfl rfl rfl Rem.head (Src.sl h5) rfl (ok8 _) rfl (by omega) (by omega) rfl rfl rfl fun v6 => ?_
 first | apply Wk.olFreezer (v := v6) | apply Wk.olFreeze (v := v6)
 case p => exact rem
 intro Z2 e2 h6
 (repeat first|refine go ?_|intro _)
 refine Wk.ret ⟨_, Rs.tmp rfl Rs.nil, _, Sub.none _, h6, rfl⟩
noncomputable def sealE (ls : List Lat) (j : Jn) : Int := if JnE ls j ≠ 0 then JnE ls j else if j.co < 0 then 7 else if 0 < j.d.2.length then 9 else wrE j j.co.toNat (slB j.fr)
noncomputable def sealJ (ls : List Lat) (j : Jn) : Jn := if sealE ls j ≠ 0 then Jz else { wrJ j (1 - j.h) j.co.toNat (slB j.fr) with h := 1 - j.h, nx := j.co + 1, se := j.nu, co := -1, fr := 0 }
theorem jSeal {Z : Zone} {v : Value} {cj : List Value} {ls : List Lat} {j : Jn} {d : Nat} (h : LatsR Z v ls) (hl : LatsTh ls) (hj : JnR Z cj j) (ht : ThinP j.d) (h8 : j.s.length ≤ 8) (hd : j.In d) :
  Cz M (.func (.func 34) #[] #[]) [v, .agg ⟨cj⟩] Z [] (fun v' Z' A' => CpOut (sealE ls j) (sealJ ls j) v' Z' ∧ A' = []) := by
 classical
 obtain ⟨av, cv, rfl⟩ := h.form
 have hj0 := hj
 obtain ⟨a1, m1, c1, a2, m2, c2, a3, c3, rfl, hD, hE⟩ := hj.form
 obtain rfl : m2 = j.d.2.length := by
  obtain ⟨_, _, e, _, us, hs, _⟩ := hD
  cases e
  obtain ⟨x, y, e2⟩ := hs.form
  cases e2; rfl
 have eHJ : sealE ls j ≠ 0 → sealJ ls j = Jz := fun k => by unfold sealJ; rw [if_pos k]
 refine Cz.fn (f := Tryz.f34) (by kernel_rfl) rfl rfl rfl _ rfl ?_
 (repeat first|refine go ?_|intro _)
 rename_i b3 b4
 refine Wk.call rfl rfl (Spl.none _) (CheckJ h hl hj0 ht h8 hd) rfl rfl rfl ?_
 rintro v' Z' A' hz ⟨rfl, rfl, rfl⟩
 by_cases hok : JnE ls j = 0
 rotate_left
 ·have hE1 : sealE ls j = JnE ls j := by unfold sealE; rw [if_pos hok]
  rw [hE1, eHJ (by rw [hE1]; exact hok)]
  (repeat first|refine go ?_|intro _)
  refine Wk.cond rfl (fun hc => ?_) (fun hc => ?_)
  ·(repeat first|refine go ?_|intro _)
   refine Wk.cond rfl (fun hc => ?_) (fun hc => ?_)
   ·(repeat first|refine go ?_|intro _)
    refine Wk.ret ⟨_, Rs.cell rfl rfl has rfl rfl (Rs.tmp rfl Rs.nil), _, Sub.none _, ⟨zc, rfl, JnR.zero⟩, rfl⟩
   ·exfalso; simp at hc; exact hok hc
  ·exfalso; simp at hc; exact hok hc
 obtain ⟨h0, ok⟩ := JnE_zero hok
 have hco := ok.co
 rw [hok]
 (repeat first|refine go ?_|intro _)
 refine Wk.cond rfl (fun hc => ?_) (fun hc => ?_)
 ·have hE1 : sealE ls j = 7 := by unfold sealE; rw [if_neg (fun k => k hok), if_pos (by simp at hc; omega)]
  rw [hE1, eHJ (by rw [hE1]; decide)]
  (repeat first|refine go ?_|intro _)
  refine Wk.ret ⟨_, Rs.cell rfl rfl has rfl rfl (Rs.tmp rfl Rs.nil), _, Sub.none _, ⟨zc, rfl, JnR.zero⟩, rfl⟩
 have hco0 : ¬ j.co < 0 := by simp at hc; omega
 clear hc
 (repeat first|refine go ?_|intro _)
 refine Wk.cond rfl (fun hc => ?_) (fun hc => ?_)
 ·have hp : 0 < j.d.2.length := by have := of_decide_eq_true hc; omega
  have hE1 : sealE ls j = 9 := by unfold sealE; rw [if_neg (fun k => k hok), if_neg hco0, if_pos hp]
  rw [hE1, eHJ (by rw [hE1]; decide)]
  (repeat first|refine go ?_|intro _)
  refine Wk.ret ⟨_, Rs.cell rfl rfl has rfl rfl (Rs.tmp rfl Rs.nil), _, Sub.none _, ⟨zc, rfl, JnR.zero⟩, rfl⟩
 have hp0 : ¬ 0 < j.d.2.length := by have := of_decide_eq_false hc; omega
 clear hc
 have hE1 : sealE ls j = wrE j j.co.toNat (slB j.fr) := by unfold sealE; rw [if_neg (fun k => k hok), if_neg hco0, if_neg hp0]
 have hh : 1 - j.h = 0 ∨ 1 - j.h = 1 := by have := ok.h; omega
 have hjh := ok.h
 have hdl := ok.disk.2.2.1
 have hnu := ok.nu
 (repeat first|refine go ?_|intro _)
 refine Wk.call rfl rfl (Spl.none _) (cloneJ hj0 ht h8 hd) rfl rfl rfl ?_
 rintro v' Z1 A' hz1 ⟨cs, vP, ps, rfl, hJO, rfl⟩
 obtain ⟨vB, vE, rfl, hB1, hE0, hW1⟩ := hJO
 obtain ⟨aB, cB, rfl⟩ := hB1.form
 obtain ⟨aE, cE, rfl⟩ := hE0.form
 first | refine Wk.knowr rem (fun s h => ol.form (v := vP) h) ?_ | refine Wk.know rem (fun s h => ol.form (v := vP) h) ?_
 rintro ⟨aP, cP, rfl⟩
 refine Wk.dropr (B := [ol 2 (.slice aP j.d.2.length cP) j.d.2.length ps, jz b4, pt b3 (.cells [.slice a1 m1 c1, .slice a2 j.d.2.length c2, .slice a3 j.s.length c3, .int .i64 j.h, .int .i64 j.nx, .int .i64 j.nu, .int .i64 j.se, .int .i64 j.co, .int .i64 j.fr] true 0)]) (Sub.refl _) ?_
 (repeat first|refine go ?_|intro _)
 rename_i bj
 refine Wk.drawr (ms := [0, 1, 3, 0, 8, 7, 39, 127, 255, 511, 1023, 2047, 4095]) (l := [0, 1, 2, 3, 4, 5, 6, 7, 8, 9, 10, 11, 12]) (by kernel_rfl) (by kernel_rfl) (by kernel_rfl) rfl ?_
 (repeat first|refine go ?_|intro _)
 refine Wk.storeD rfl rfl rfl rfl rfl .head rfl rfl ⟨?_, ?_⟩
 ·exact pnb
 (repeat first|refine go ?_|intro _)
 refine Wk.store rfl rfl rfl rfl rfl .head rfl (by kernel_rfl) rfl ?_
 (repeat first|refine go ?_|intro _)
 rename_i bw
 obtain ⟨c, hcn⟩ : ∃ c : Nat, j.co = c := ⟨j.co.toNat, by omega⟩
 have hct : j.co.toNat = c := by omega
 rw [hcn]
 rw [hct] at hE1
 refine Wk.call rfl rfl (Spl.none _) (sealG j.fr) rfl rfl rfl ?_
 rintro v50 Z2 A' hz2 ⟨hsl, rfl⟩
 obtain ⟨aw, cw, rfl⟩ := hsl.form
 refine Wk.alterr (x := ol 2 (.slice aP j.d.2.length cP) j.d.2.length ps) (C := [ol 2 (.slice aP j.d.2.length cP) j.d.2.length ps]) (.tail (.tail .head)) (fun s h => Sat.one h) ?_
 have hJ1 : JO Z2 [.slice aB j.d.1.length cB, .slice aP j.d.2.length cP, .slice aE j.s.length cE, .int .i64 (1 - j.h), .int .i64 j.nx, .int .i64 j.nu, .int .i64 j.nu, .int .i64 (-1), .int .i64 0] { j with h := 1 - j.h, se := j.nu, co := -1, fr := 0 } (.slice aP j.d.2.length cP) ps := ⟨_, _, rfl, hB1.mono hz2, hE0.mono hz2, hW1.mono hz2⟩
 have hwj : wrE { j with h := 1 - j.h, se := j.nu, co := -1, fr := 0 } c (slB j.fr) = wrE j c (slB j.fr) := rfl
 (repeat first|refine go ?_|intro _)
 refine Wk.call rfl rfl (.l (.l (.l (.r (.r .nil))))) (penWrite (j := { j with h := 1 - j.h, se := j.nu, co := -1, fr := 0 }) (at_ := c) (hf := 1 - j.h) hJ1 hsl (by rw [slB_len]; omega) (by rw [slB_len]; omega) (by show 0 ≤ j.nu ∧ j.nu ≤ 2000000001; omega) hh (by omega) ⟨_, _, rfl⟩ (by show j.d.1.length ≤ 1000; omega) (by show j.d.2.length ≤ 1000; omega)) rfl rfl rfl ?_
 rintro v61 Z3 A' hz3 ⟨rfl, at', cs', vP', m', ps'', rfl, hcs, hgood⟩
 first | refine Wk.knowr rem (fun s h => ol.form (v := vP') h) ?_ | refine Wk.know rem (fun s h => ol.form (v := vP') h) ?_
 rintro ⟨aQ, cQ, rfl⟩
 rw [hwj] at hgood ⊢
 by_cases hw0 : wrE j c (slB j.fr) = 0
 rotate_left
 ·rw [hE1, eHJ (by rw [hE1]; exact hw0)]
  (repeat first|refine go ?_|intro _)
  refine Wk.cond rfl (fun hc => ?_) (fun hc => ?_)
  ·(repeat first|refine go ?_|intro _)
   refine Wk.ret ⟨_, Rs.cell rfl rfl has rfl rfl (Rs.tmp rfl Rs.nil), _, Sub.none _, ⟨zc, rfl, JnR.zero⟩, rfl⟩
  ·exfalso; simp at hc; exact hw0 hc
 obtain ⟨rfl, hJ', rfl⟩ := hgood hw0
 have hS0 : sealE ls j = 0 := by rw [hE1, hw0]
 have hSJ : sealJ ls j = { wrJ { j with h := 1 - j.h, se := j.nu, co := -1, fr := 0 } (1 - j.h) c (slB j.fr) with nx := j.co + 1 } := by
  unfold sealJ; rw [if_neg (by rw [hS0]; simp), hct]; rfl
 rw [hS0, hSJ, hw0]
 obtain ⟨vB', vE', rfl, hB', hE', hW'⟩ := hJ'
 obtain ⟨xB, yB, rfl⟩ := hB'.form
 obtain ⟨xE, yE, rfl⟩ := hE'.form
 refine Wk.olFreezer (v := .slice aQ _ cQ) Rem.head fun Z4 e4 hP => ?_
 rw [slB_many]
 (repeat first|refine go ?_|intro _)
 refine Wk.ret ⟨_, Rs.cell rfl rfl has rfl rfl (Rs.tmp rfl Rs.nil), _, Sub.none _, ⟨_, rfl, _, _, _, ?_, ⟨_, _, rfl, hB'.mono e4, Wrs.of hP (hW'.mono e4)⟩, hE'.mono e4⟩, rfl⟩
 rw [hcn]
 rfl
theorem rSeal {Z : Zone} {v : Value} {cj : List Value} {ls : List Lat} {j : Jn} {d : Nat} (h : LatsR Z v ls) (hl : LatsTh ls) (hj : JnR Z cj j) (ht : ThinP j.d) (h8 : j.s.length ≤ 8) (hd : j.In d) :
  Cz M (.func (.func 36) #[] #[]) [v, .agg ⟨cj⟩] Z [] (fun v' Z' A' => CpOut (sealE ls j) (sealJ ls j) v' Z' ∧ A' = []) := by
 classical
 obtain ⟨av, cv, rfl⟩ := h.form
 have hj0 := hj
 obtain ⟨a1, m1, c1, a2, m2, c2, a3, c3, rfl, hD, hE⟩ := hj.form
 obtain rfl : m2 = j.d.2.length := by
  obtain ⟨_, _, e, _, us, hs, _⟩ := hD
  cases e
  obtain ⟨x, y, e2⟩ := hs.form
  cases e2; rfl
 have eHJ : sealE ls j ≠ 0 → sealJ ls j = Jz := fun k => by unfold sealJ; rw [if_pos k]
 refine Cz.fn (f := Tryz.f36) (by kernel_rfl) rfl rfl rfl _ rfl ?_
 (repeat first|refine go ?_|intro _)
 rename_i b3 b4
 refine Wk.call rfl rfl (Spl.none _) (rCheckJ h hl hj0 ht h8 hd) rfl rfl rfl ?_
 rintro v' Z' A' hz ⟨rfl, rfl, rfl⟩
 by_cases hok : JnE ls j = 0
 rotate_left
 ·have hE1 : sealE ls j = JnE ls j := by unfold sealE; rw [if_pos hok]
  rw [hE1, eHJ (by rw [hE1]; exact hok)]
  (repeat first|refine go ?_|intro _)
  refine Wk.cond rfl (fun hc => ?_) (fun hc => ?_)
  ·(repeat first|refine go ?_|intro _)
   refine Wk.ret ⟨_, Rs.cell rfl rfl has rfl rfl (Rs.tmp rfl Rs.nil), _, Sub.none _, ⟨zc, rfl, JnR.zero⟩, rfl⟩
  ·exfalso; simp at hc; exact hok hc
 obtain ⟨h0, ok⟩ := JnE_zero hok
 have hco := ok.co
 rw [hok]
 (repeat first|refine go ?_|intro _)
 refine Wk.cond rfl (fun hc => ?_) (fun hc => ?_)
 ·have hE1 : sealE ls j = 7 := by unfold sealE; rw [if_neg (fun k => k hok), if_pos (by simp at hc; omega)]
  rw [hE1, eHJ (by rw [hE1]; decide)]
  (repeat first|refine go ?_|intro _)
  refine Wk.ret ⟨_, Rs.cell rfl rfl has rfl rfl (Rs.tmp rfl Rs.nil), _, Sub.none _, ⟨zc, rfl, JnR.zero⟩, rfl⟩
 have hco0 : ¬ j.co < 0 := by simp at hc; omega
 clear hc
 (repeat first|refine go ?_|intro _)
 refine Wk.cond rfl (fun hc => ?_) (fun hc => ?_)
 ·have hp : 0 < j.d.2.length := by have := of_decide_eq_true hc; omega
  have hE1 : sealE ls j = 9 := by unfold sealE; rw [if_neg (fun k => k hok), if_neg hco0, if_pos hp]
  rw [hE1, eHJ (by rw [hE1]; decide)]
  (repeat first|refine go ?_|intro _)
  refine Wk.ret ⟨_, Rs.cell rfl rfl has rfl rfl (Rs.tmp rfl Rs.nil), _, Sub.none _, ⟨zc, rfl, JnR.zero⟩, rfl⟩
 have hp0 : ¬ 0 < j.d.2.length := by have := of_decide_eq_false hc; omega
 clear hc
 have hE1 : sealE ls j = wrE j j.co.toNat (slB j.fr) := by unfold sealE; rw [if_neg (fun k => k hok), if_neg hco0, if_neg hp0]
 have hh : 1 - j.h = 0 ∨ 1 - j.h = 1 := by have := ok.h; omega
 have hjh := ok.h
 have hdl := ok.disk.2.2.1
 have hnu := ok.nu
 (repeat first|refine go ?_|intro _)
 refine Wk.call rfl rfl (Spl.none _) (copyJ2 hj0 ht h8 hd) rfl rfl rfl ?_
 rintro v' Z1 A' hz1 ⟨cs, vP, ps, rfl, hJO, rfl⟩
 obtain ⟨vB, vE, rfl, hB1, hE0, hW1⟩ := hJO
 obtain ⟨aB, cB, rfl⟩ := hB1.form
 obtain ⟨aE, cE, rfl⟩ := hE0.form
 first | refine Wk.knowr rem (fun s h => ol.form (v := vP) h) ?_ | refine Wk.know rem (fun s h => ol.form (v := vP) h) ?_
 rintro ⟨aP, cP, rfl⟩
 refine Wk.dropr (B := [ol 2 (.slice aP j.d.2.length cP) j.d.2.length ps, jz b4, pt b3 (.cells [.slice a1 m1 c1, .slice a2 j.d.2.length c2, .slice a3 j.s.length c3, .int .i64 j.h, .int .i64 j.nx, .int .i64 j.nu, .int .i64 j.se, .int .i64 j.co, .int .i64 j.fr] true 0)]) (Sub.refl _) ?_
 (repeat first|refine go ?_|intro _)
 rename_i bj
 refine Wk.alter (x := ol 2 (.slice aP j.d.2.length cP) j.d.2.length ps) (C := [ol 2 (.slice aP j.d.2.length cP) j.d.2.length ps]) rem (fun s h => Sat.one h) ?_
 obtain ⟨c, hcn⟩ : ∃ c : Nat, j.co = c := ⟨j.co.toNat, by omega⟩
 have hct : j.co.toNat = c := by omega
 rw [hct] at hE1
 refine Wk.drawr (ms := [0, 1, 3, 0, 8, 0, 32, 96, 255, 511, 1023, 1023, 2047, 8191]) (l := [0, 1, 2, 3, 4, 5, 6, 7, 8, 9, 10, 11, 12, 13]) (by kernel_rfl) (by kernel_rfl) (by kernel_rfl) rfl ?_
 (repeat first|refine go ?_|intro _)
 refine Wk.callD rfl rfl (Spl.none _) (rsealG j.fr (by have := ok.fr; omega) (by have := ok.fr; omega)) rfl rfl fun v50 Z2 A' hz2 hq => ?_
 obtain ⟨hsl, rfl⟩ := hq
 refine ⟨?_, ?_⟩
 ·exact pnb
 obtain ⟨aw, cw, rfl⟩ := hsl.form
 have hJ1 : JO Z2 [.slice aB j.d.1.length cB, .slice aP j.d.2.length cP, .slice aE j.s.length cE, .int .i64 j.h, .int .i64 j.nx, .int .i64 j.nu, .int .i64 j.se, .int .i64 j.co, .int .i64 j.fr] j (.slice aP j.d.2.length cP) ps := ⟨_, _, rfl, hB1.mono hz2, hE0.mono hz2, hW1.mono hz2⟩
 (repeat first|refine go ?_|intro _)
 refine Wk.tellr 34 (.int .i64 c) rfl (by rw [hcn]) ?_
 refine Wk.call rfl rfl (.l (.l (.r (.r .nil)))) (refWrite hJ1 hsl (by rw [slB_len]; omega) (by rw [slB_len]; omega) (by omega) hh (by omega) ⟨_, _, rfl⟩ (by omega) (by omega)) (by kernel_rfl) rfl rfl ?_
 rintro v61 Z3 A' hz3 ⟨rfl, cs', vP', m', ps'', rfl, hcs, hgood⟩
 first | refine Wk.knowr rem (fun s h => ol.form (v := vP') h) ?_ | refine Wk.know rem (fun s h => ol.form (v := vP') h) ?_
 rintro ⟨aQ, cQ, rfl⟩
 by_cases hw0 : wrE j c (slB j.fr) = 0
 rotate_left
 ·rw [hE1, eHJ (by rw [hE1]; exact hw0)]
  (repeat first|refine go ?_|intro _)
  refine Wk.cond rfl (fun hc => ?_) (fun hc => ?_)
  ·(repeat first|refine go ?_|intro _)
   refine Wk.ret ⟨_, Rs.cell rfl rfl has rfl rfl (Rs.tmp rfl Rs.nil), _, Sub.none _, ⟨zc, rfl, JnR.zero⟩, rfl⟩
  ·exfalso; simp at hc; exact hw0 hc
 obtain ⟨hJ', rfl⟩ := hgood hw0
 have hS0 : sealE ls j = 0 := by rw [hE1, hw0]
 have hSJ : sealJ ls j = { wrJ j (1 - j.h) c (slB j.fr) with h := 1 - j.h, nx := j.co + 1, se := j.nu, co := -1, fr := 0 } := by
  unfold sealJ; rw [if_neg (by rw [hS0]; simp), hct]
 rw [hS0, hSJ, hw0]
 obtain ⟨vB', vE', rfl, hB', hE', hW'⟩ := hJ'
 obtain ⟨xB, yB, rfl⟩ := hB'.form
 obtain ⟨xE, yE, rfl⟩ := hE'.form
 refine Wk.olFreezer (v := .slice aQ _ cQ) Rem.head fun Z4 e4 hP => ?_
 (repeat first|refine go ?_|intro _)
 refine Wk.drawr (ms := [0, 1, 3, 0, 8, 24, 0, 64, 7, 263, 831, 1855, 4095, 8191, 16383, 32767, 65535, 131071]) (l := [0, 1, 2, 3, 4, 5, 6, 7, 8, 9, 10, 11, 12, 13, 14, 15, 16, 17]) (by kernel_rfl) (by kernel_rfl) (by kernel_rfl) rfl ?_
 (repeat first|refine go ?_|intro _)
 refine Wk.storeD rfl rfl rfl rfl rfl .head rfl rfl ⟨?_, ?_⟩
 ·exact pnb
 (repeat first|refine go ?_|intro _)
 refine Wk.storeD rfl rfl rfl rfl rfl .head rfl rfl ⟨?_, ?_⟩
 ·exact pnb
 (repeat first|refine go ?_|intro _)
 refine Wk.storeD rfl rfl rfl rfl rfl .head rfl rfl ⟨?_, ?_⟩
 ·exact pnb
 (repeat first|refine go ?_|intro _)
 refine Wk.storeD rfl rfl rfl rfl rfl .head rfl rfl ⟨?_, ?_⟩
 ·exact pnb
 (repeat first|refine go ?_|intro _)
 refine Wk.store rfl rfl rfl rfl rfl .head rfl (by kernel_rfl) rfl ?_
 (repeat first|refine go ?_|intro _)
 refine Wk.ret ⟨_, Rs.cell rfl rfl has rfl rfl (Rs.tmp rfl Rs.nil), _, Sub.none _, ⟨_, rfl, _, _, _, ?_, ⟨_, _, rfl, hB'.mono e4, Wrs.of hP (hW'.mono e4)⟩, hE'.mono e4⟩, rfl⟩
 rfl
theorem sameDiskW {Z : Zone} {v1 v2 : Value} {d : Dsk} (h1 : Dk Z v1 d) (h2 : Dk Z v2 d) (hm : d.1.length ≤ 1000000) (hp : d.2.length ≤ 1000000) :
  Cz M (.func (.func 44) #[] #[]) [v1, v2] Z [] (fun v' Z' A' => v' = .bool true ∧ Z = Z' ∧ A' = []) := by
 obtain ⟨vb1, vp1, rfl, hb1, us1, hp1, r1⟩ := h1
 obtain ⟨vb2, vp2, rfl, hb2, us2, hp2, r2⟩ := h2
 obtain ⟨ap1, cp1, rfl⟩ := hp1.form
 obtain ⟨ap2, cp2, rfl⟩ := hp2.form
 refine Cz.fn (f := Tryz.f44) (by kernel_rfl) rfl rfl rfl _ rfl ?_
 (repeat first|refine go ?_|intro _)
 refine Wk.call rfl rfl (Spl.none _) (sameBlocks hb1 hb2 hm) rfl rfl rfl ?_
 rintro v10 Z1 A' hz1 ⟨rfl, rfl, rfl⟩
 (repeat first|refine go ?_|intro _)
 refine Wk.cond rfl (fun hc => absurd hc (by simp)) (fun _ => ?_)
 (repeat first|refine go ?_|intro _)
 refine Wk.loop (fun mm L Z' A' => ∃ j, j ≤ d.2.length ∧ mm = d.2.length - j ∧ Z = Z' ∧ A' = [pt _ (.cells [vb2, .slice ap2 d.2.length cp2] true 0), pt _ (.cells [vb1, .slice ap1 d.2.length cp1] true 0)] ∧ Kp L [(2, .pointer (some ⟨_, 0, none⟩)), (3, .pointer (some ⟨_, 0, none⟩)), (5, .int .i64 j)]) d.2.length ⟨0, by omega, rfl, rfl, rfl, rfl, rfl, rfl, trivial⟩ ?_
 rintro mm L Z' A' - ⟨j, hj, rfl, rfl, rfl, hk⟩
 refine Wk.kp hk ?_
 clear hk
 (repeat first|refine go ?_|intro _)
 refine Wk.cond rfl (fun hc => ?_) (fun hc => ?_)
 ·have hlt : j < d.2.length := by simp at hc; omega
  obtain ⟨u, e1, e2⟩ := r1 j hlt
  obtain ⟨w, f1, f2⟩ := r2 j hlt
  (repeat first|refine go ?_|intro _)
  refine Wk.drawr (ms := [0, 1, 0, 7, 15, 31, 0, 64, 0, 448, 960, 1984, 4095, 8191, 16383, 32767, 16383, 131071, 262143, 524287, 1048575, 16383, 2113535, 16383, 14696447, 31473663, 65028095, 132136959, 268435455, 536870911]) (l := [0, 1, 2, 3, 4, 5, 6, 7, 8, 9, 10, 11, 12, 13, 14, 15, 16, 17, 18, 19, 20, 21, 22, 23, 24, 25, 26, 27, 28, 29]) (by kernel_rfl) (by kernel_rfl) (by kernel_rfl) rfl ?_
  (repeat first|refine go ?_|intro _)
  try refine Wk.loadP0 rfl rfl (by assumption) rfl rfl rfl rfl ?_
  (repeat first|refine go ?_|intro _)
  try refine Wk.loadP0 rfl rfl (by assumption) rfl rfl rfl rfl ?_
  (repeat first|refine go ?_|intro _)
  refine Wk.caser 41 rfl (fun hc => absurd hc (by simp)) (fun hc => ?_)
  (repeat first|refine go ?_|intro _)
  refine Wk.loadP rfl rfl (by assumption) rfl rfl rfl rfl ?_
  refine Wk.v rfl rfl rfl (Rd.str rfl rfl rfl rfl e2) ?_
  (repeat first|refine go ?_|intro _)
  refine Wk.loadP rfl rfl (by assumption) rfl rfl rfl rfl ?_
  refine Wk.v rfl rfl rfl (Rd.str rfl rfl rfl rfl f2) ?_
  (repeat first|refine go ?_|intro _)
  refine Wk.cond rfl (fun hc => absurd hc (by simp)) (fun _ => ?_)
  (repeat first|refine go ?_|intro _)
  exact Wk.inv ⟨_, by omega, j + 1, hlt, rfl, rfl, rfl, rfl, rfl, rfl, trivial⟩
 ·(repeat first|refine go ?_|intro _)
  refine Wk.ret ?_
  exact ⟨_, Rs.tmp rfl Rs.nil, _, Sub.none _, rfl, rfl, rfl⟩
theorem SameJ {Z : Zone} {c1 c2 : List Value} {j : Jn} {d : Nat} (h1 : JnR Z c1 j) (h2 : JnR Z c2 j) (hm : j.d.1.length ≤ 1000) (hp : j.d.2.length ≤ 1000) (h8 : j.s.length ≤ 8) (hd : j.In d) :
  Cz M (.func (.func 18) #[] #[]) [.agg ⟨c1⟩, .agg ⟨c2⟩] Z [] (fun v' Z' A' => v' = .bool true ∧ Z = Z' ∧ A' = []) := by
 obtain ⟨a1, m1, n1, a2, m2, n2, a3, n3, rfl, hD1, hE1⟩ := h1.form
 obtain ⟨b1, k1, l1, b2, k2, l2, b3, l3, rfl, hD2, hE2⟩ := h2.form
 refine Cz.fn (f := Tryz.f18) (by kernel_rfl) rfl rfl rfl _ rfl ?_
 (repeat first|refine go ?_|intro _)
 refine Wk.call rfl rfl (Spl.none _) (sameDiskW hD1 hD2 (by omega) (by omega)) rfl rfl rfl ?_
 rintro v10 Z1 A' hz1 ⟨rfl, rfl, rfl⟩
 (repeat first|refine go ?_|intro _)
 refine Wk.call rfl rfl (Spl.none _) (sameEls hE1 hE2 (by omega) hd) rfl rfl rfl ?_
 rintro v15 Z1 A' hz1 ⟨⟨b, rfl, hb⟩, rfl, rfl⟩
 obtain rfl := hb.2 rfl
 (repeat first|refine go ?_|intro _)
 refine Wk.caser 24 rfl (fun hc => ?_) (fun hc => absurd hc (by simp))
 clear hc
 (repeat first|refine go ?_|intro _)
 refine Wk.caser 31 rfl (fun hc => ?_) (fun hc => absurd hc (by simp))
 clear hc
 (repeat first|refine go ?_|intro _)
 refine Wk.caser 38 rfl (fun hc => ?_) (fun hc => absurd hc (by simp))
 clear hc
 (repeat first|refine go ?_|intro _)
 refine Wk.caser 45 rfl (fun hc => ?_) (fun hc => absurd hc (by simp))
 clear hc
 (repeat first|refine go ?_|intro _)
 refine Wk.caser 52 rfl (fun hc => ?_) (fun hc => absurd hc (by simp))
 clear hc
 (repeat first|refine go ?_|intro _)
 refine Wk.ret ⟨_, Rs.tmp rfl Rs.nil, _, Sub.none _, by simp [outOf], rfl, rfl⟩
theorem dupF_K {ls : List Lat} {hf : Int} {j0 : Jn} (hl : j0.d.1.length ≤ 1000) : ∀ (r : List El) (v : Nat) (jc : Jn) (at_ : Nat), Kpt j0 jc at_ → (dupF ls hf v r jc at_).1 = 0 → Kpt j0 (dupF ls hf v r jc at_).2.1 (dupF ls hf v r jc at_).2.2
 | [], v, jc, at_, h, _ => by rw [dupF]; exact h
 | e :: r, v, jc, at_, h, h0 => by
  by_cases hb : e.Bot
  ·rw [dupF_bot hb] at h0 ⊢
   exact dupF_K hl r _ _ _ h h0
  cases hg : ls[v]? with
  | none => rw [dupF, if_neg hb] at h0; simp only [hg] at h0; cases h0
  | some l =>
   by_cases h1 : BtE l e = 0
   rotate_left
   ·rw [dupF_big hb hg h1] at h0; cases h0
   by_cases h2 : wrE jc at_ (JBy l v e) = 0
   rotate_left
   ·rw [dupF_bad hb hg h1 h2] at h0; exact absurd h0 h2
   rw [dupF_go hb hg h1 h2] at h0 ⊢
   exact dupF_K hl r _ _ _ (h.wr hl h2) h0
def Small (d : Nat) (j : Jn) : Prop := j.d.1.length ≤ 1000 ∧ j.d.2.length ≤ 1000 ∧ j.s.length ≤ 8 ∧ j.In d
theorem Small.z {d : Nat} : Small d Jz := ⟨by decide, by decide, by decide, fun i h => absurd h (by simp [Jz])⟩
theorem dupJ_small {ls : List Lat} {j : Jn} {d : Nat} (ht : ThinP j.d) (h8 : j.s.length ≤ 8) (hd : j.In d) : Small d (dupJ ls j) := by
 unfold dupJ
 split
 ·exact Small.z
 ·rename_i h
  have h0 := Classical.not_not.1 h
  unfold dupE at h0
  split at h0
  ·rename_i q; exact absurd h0 q
  rename_i q
  obtain ⟨_, ok⟩ := JnE_zero (Classical.not_not.1 q)
  split at h0
  ·exact absurd h0 (by decide)
  have := ht.1
  have := ht.2.1
  have := ok.nu
  have K := dupF_K (by omega) _ _ _ _ (show Kpt j j 0 from ⟨rfl, rfl, by omega, by omega, by omega, rfl, rfl, rfl, rfl, rfl⟩) h0
  refine ⟨?_, K.p, ?_, ?_⟩
  ·show (dupF ls (1 - j.h) 0 j.s j 0).2.1.d.1.length ≤ 1000
   rw [K.b]; omega
  ·show (dupF ls (1 - j.h) 0 j.s j 0).2.1.s.length ≤ 8
   rw [K.s]; exact h8
  ·show ∀ i (h : i < (dupF ls (1 - j.h) 0 j.s j 0).2.1.s.length), ((dupF ls (1 - j.h) 0 j.s j 0).2.1.s[i]).Fit d
   rw [K.s]; exact hd
theorem sealJ_small {ls : List Lat} {j : Jn} {d : Nat} (ht : ThinP j.d) (h8 : j.s.length ≤ 8) (hd : j.In d) : Small d (sealJ ls j) := by
 unfold sealJ
 split
 ·exact Small.z
 ·rename_i h
  have h0 := Classical.not_not.1 h
  unfold sealE at h0
  split at h0
  ·rename_i q; exact absurd h0 q
  split at h0
  ·exact absurd h0 (by decide)
  split at h0
  ·exact absurd h0 (by decide)
  rename_i hp
  have := ht.1
  refine ⟨by show j.d.1.length ≤ 1000; omega, ?_, h8, hd⟩
  show (j.d.2 ++ wrL (1 - j.h) (j.d.1.length / 2) j.co.toNat j.nu (slB j.fr) (many (slB j.fr))).length ≤ 1000
  rw [List.length_append, wrL_len, slB_many]; omega
theorem JournalCopies {Z : Zone} {v : Value} {cj : List Value} {ls : List Lat} {j : Jn} {d : Nat} (h : LatsR Z v ls) (hj : JnR Z cj j) (hd : j.In d) :
  Cz M (.func (.func 6) #[] #[]) [v, .agg ⟨cj⟩] Z [] (fun v' _ _ => v' = .bool true) := by
 classical
 obtain ⟨av, cv, rfl⟩ := h.form
 have hj0 := hj
 obtain ⟨a1, m1, c1, a2, m2, c2, a3, c3, rfl, hD, hE⟩ := hj.form
 refine Cz.fn (f := Tryz.f6) (by kernel_rfl) rfl rfl rfl _ rfl ?_
 (repeat first|refine go ?_|intro _)
 rename_i b3
 refine Wk.call rfl rfl (Spl.none _) (ThinJ h hj0 hd) rfl rfl rfl ?_
 rintro v' Z' A' hz ⟨⟨b, rfl, hb⟩, rfl, rfl⟩
 cases b with
 | false =>
  (repeat first|refine go ?_|intro _)
  refine Wk.call rfl rfl (Spl.none _) ((Cz.ora rfl)) rfl rfl rfl ?_
  rintro v' Z' A' hz ⟨rfl, rfl, rfl⟩
  (repeat first|refine go ?_|intro _)
  refine Wk.ret ?_
  exact ⟨_, Rs.tmp rfl Rs.nil, _, Sub.none _, rfl⟩
 | true =>
 obtain ⟨hl, ht, h8⟩ := hb rfl
 obtain ⟨s1, s2, s3, s4⟩ := dupJ_small (ls := ls) ht h8 hd
 obtain ⟨u1, u2, u3, u4⟩ := sealJ_small (ls := ls) ht h8 hd
 (repeat first|refine go ?_|intro _)
 refine Wk.drawr (ms := [0, 1, 0, 7, 15, 31, 63, 63, 0, 383, 1023]) (l := [0, 2, 8, 1, 3, 4, 5, 6, 7, 9, 10]) (by kernel_rfl) (by kernel_rfl) (by kernel_rfl) rfl ?_
 (repeat first|refine go ?_|intro _)
 rename_i b5
 (repeat first|refine go ?_|intro _)
 refine Wk.callD rfl rfl (Spl.none _) (copyLattices h hl) rfl rfl fun v1 Z1 A' hz1 hq => ?_
 obtain ⟨h1, rfl⟩ := hq
 refine ⟨?_, ?_⟩
 ·exact pnb
 obtain ⟨av1, cv1, rfl⟩ := h1.form
 (repeat first|refine go ?_|intro _)
 refine Wk.callD rfl rfl (Spl.none _) (copyJ (hj0.mono hz1) ht h8 hd) rfl rfl fun v2 Z2 A' hz2 hq => ?_
 obtain ⟨⟨cs2, rfl, h2⟩, rfl⟩ := hq
 refine ⟨?_, ?_⟩
 ·exact pnb
 (repeat first|refine go ?_|intro _)
 refine Wk.callD rfl rfl (Spl.none _) (jCopy (h1.mono hz2) hl h2 ht h8 hd) rfl rfl fun v3 Z3 A' hz3 hq => ?_
 obtain ⟨⟨cs3, rfl, h3⟩, rfl⟩ := hq
 refine ⟨?_, ?_⟩
 ·exact pnb
 (repeat first|refine go ?_|intro _)
 obtain ⟨p1, k1, q1, p2, k2, q2, p3, q3, rfl, hD3, hE3⟩ := h3.form
 refine Wk.store rfl rfl rfl rfl rfl .head rfl (by kernel_rfl) rfl ?_
 (repeat first|refine go ?_|intro _)
 refine Wk.drawr (ms := [0, 1, 0, 7, 15, 31, 63, 63, 0, 383, 1023]) (l := [0, 2, 8, 1, 3, 4, 5, 6, 7, 9, 10]) (by kernel_rfl) (by kernel_rfl) (by kernel_rfl) rfl ?_
 (repeat first|refine go ?_|intro _)
 rename_i b7
 (repeat first|refine go ?_|intro _)
 have hza := hz1.trans (hz2.trans hz3)
 refine Wk.callD rfl rfl (Spl.none _) (copyLattices (h.mono hza) hl) rfl rfl fun v4 Z4 A' hz4 hq => ?_
 obtain ⟨h4, rfl⟩ := hq
 refine ⟨?_, ?_⟩
 ·exact pnb
 obtain ⟨av4, cv4, rfl⟩ := h4.form
 (repeat first|refine go ?_|intro _)
 refine Wk.callD rfl rfl (Spl.none _) (copyJ (hj0.mono (hza.trans hz4)) ht h8 hd) rfl rfl fun v5 Z5 A' hz5 hq => ?_
 obtain ⟨⟨cs5, rfl, h5⟩, rfl⟩ := hq
 refine ⟨?_, ?_⟩
 ·exact pnb
 (repeat first|refine go ?_|intro _)
 refine Wk.callD rfl rfl (Spl.none _) (jSeal (h4.mono hz5) hl h5 ht h8 hd) rfl rfl fun v6 Z6 A' hz6 hq => ?_
 obtain ⟨⟨cs6, rfl, h6⟩, rfl⟩ := hq
 refine ⟨?_, ?_⟩
 ·exact pnb
 (repeat first|refine go ?_|intro _)
 obtain ⟨x1, y1, z1, x2, y2, z2, x3, z3, rfl, hD6, hE6⟩ := h6.form
 refine Wk.store rfl rfl rfl rfl rfl .head rfl (by kernel_rfl) rfl ?_
 have hzb := hz4.trans (hz5.trans hz6)
 have hzc := hza.trans hzb
 (repeat first|refine go ?_|intro _)
 refine Wk.call rfl rfl (Spl.none _) (rDuplicate (h.mono hzc) hl (hj0.mono hzc) ht h8 hd) rfl rfl rfl ?_
 rintro v7 Z7 A' hz7 ⟨⟨cs7, rfl, h7⟩, rfl⟩
 obtain ⟨d1, e1, f1, d2, e2, f2, d3, f3, rfl, hD7, hE7⟩ := h7.form
 (repeat first|refine go ?_|intro _)
 rename_i b9
 refine Wk.call rfl rfl (Spl.none _) (rSeal (h.mono (hzc.trans hz7)) hl (hj0.mono (hzc.trans hz7)) ht h8 hd) rfl rfl rfl ?_
 rintro v8 Z8 A' hz8 ⟨⟨cs8, rfl, h8'⟩, rfl⟩
 obtain ⟨g1, i1, l1, g2, i2, l2, g3, l3, rfl, hD8, hE8⟩ := h8'.form
 (repeat first|refine go ?_|intro _)
 rename_i b11
 refine Wk.caser 49 rfl (fun hc => ?_) (fun hc => absurd hc (by simp))
 clear hc
 (repeat first|refine go ?_|intro _)
 have hzd := hzb.trans (hz7.trans hz8)
 refine Wk.call rfl rfl (Spl.none _) (SameJ (h3.mono hzd) (h7.mono hz8) s1 s2 s3 s4) rfl rfl rfl ?_
 rintro v9 Z9 A' hz9 ⟨rfl, rfl, rfl⟩
 (repeat first|refine go ?_|intro _)
 refine Wk.caser 59 rfl (fun hc => ?_) (fun hc => absurd hc (by simp))
 clear hc
 (repeat first|refine go ?_|intro _)
 refine Wk.call rfl rfl (Spl.none _) (SameJ (h6.mono (hz7.trans hz8)) h8' u1 u2 u3 u4) rfl rfl rfl ?_
 rintro v10 Z10 A' hz10 ⟨rfl, rfl, rfl⟩
 (repeat first|refine go ?_|intro _)
 refine Wk.call rfl rfl (Spl.none _) ((Cz.ora rfl)) rfl rfl rfl ?_
 rintro v' Z' A' hz ⟨rfl, rfl, rfl⟩
 (repeat first|refine go ?_|intro _)
 refine Wk.ret ?_
 exact ⟨_, Rs.tmp rfl Rs.nil, _, Sub.none _, rfl⟩
open Go Go.Ev
set_option maxRecDepth 100000
theorem copies_law (Z : Zone) (xs : List Value) (h : All2 (fun a t => WtV Tryz.prog Z t a) xs [22, 38]) : Cz M (.func (.func 6) #[] #[]) xs Z [] (fun v _ _ => v = .bool true) := by
 cases h with
 | cons h1 h =>
  cases h with
  | cons h2 h =>
   cases h
   obtain ⟨⟨d, w1⟩, s1⟩ := h1
   obtain ⟨⟨d2, w2⟩, s2⟩ := h2
   rw [Tryz.underlying22] at s1
   rw [Tryz.underlying38] at s2
   obtain ⟨v, ls, e, hl⟩ := wt_lats w1
   obtain ⟨⟨cs⟩, rfl⟩ := s2
   obtain ⟨j, dd, hj, hi⟩ := wt_journal w2
   have s1' : cellsL _ = [_] := s1
   rw [s1'] at e
   cases e
   exact JournalCopies hl hj hi
end Go.Proofs.J
