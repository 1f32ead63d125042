/- HU -/
import Derived.Test.YtlmmgebealakkaaGreatDoorEvF
import Derived.Test.YtlmmgebealakkaaGreatDoorHK
set_option linter.unusedVariables false
set_option maxHeartbeats 4000000
set_option maxRecDepth 100000
set_option linter.unusedSimpArgs false
namespace Go.Proofs.J
open Go.Ev Go
def PiecesAt (ts:List Tbl) (d:Nat):Prop:=∀ {Z:Zone} {cl sc ce:List Value} {l:Lat} {s:Shp} {e:El},l.1=ts→LatR Z cl l→ShR Z s sc→ElR Z e ce→IsW ts d s e→¬ e.Great→s.Ok →
 Cz M (.func (.func 77) #[] #[]) [.agg ⟨cl⟩,.agg ⟨sc⟩,.agg ⟨ce⟩] Z [] (fun v' Z' A'=>YieldsE Z' v' (piecesE ts d s e)∧A'=[])
theorem kids_kind {ts:List Tbl} {d:Nat} {s:Shp} {e:El} (so:s.Ok) (w:IsW ts (d+1) s e) (hk:e.kind≠1∧e.kind≠2∧e.kind≠3∧e.kind≠4∧e.kind≠5) {j:Nat} (hj:j < e.kids.length) :
  0 < s.kids.length∧IsW ts d (s.kid (j % s.kids.length)) (e.kd j)∧(e.kind=6∧e.n=0∧e.keys.length=e.kids.length∨e.kind=7∧e.n=0∧e.keys.length=0∧e.kids.length=2):=by
 by_cases nb:e=El.bot
 ·subst nb;simp [El.bot,El.kids] at hj
 rcases w.kinds nb with k|k|k|k|k|k|k
 ·rw [w.inv1 nb k] at hk;exact absurd rfl hk.1
 ·obtain ⟨m,hm,rfl⟩:=w.inv2 nb k;exact absurd rfl hk.2.1
 ·rcases w.inv4 nb k with ⟨m,hm,rfl⟩|rfl
  ·exact absurd rfl hk.2.1
  ·exact absurd rfl hk.2.2.1
 ·obtain ⟨t,m,ht,h1,h2,rfl⟩:=w.inv5 nb k;exact absurd rfl hk.2.2.2.1
 ·obtain ⟨ks,hk2,rfl⟩:=w.inv3 nb k;exact absurd rfl hk.2.2.2.2
 ·obtain ⟨k0,ks,l,e0,hks,hl,hx,rfl⟩:=w.inv6 nb k
  have hkl:s.kids.length=1:=by
   have:=so.kids_.1
   rw [k] at this
   simpa [kidsOf] using this.symm
  have hj:j < l.length:=hj
  refine ⟨by omega,?_,.inl ⟨rfl,rfl,hl.symm⟩⟩
  rw [hkl,Nat.mod_one,Shp.kid_eq e0]
  have:(El.mk 6 0 ks l).kd j=l[j]:=by simp [El.kd,El.kids,hj]
  rw [this]
  exact (hx _ (List.getElem_mem hj)).2
 ·obtain ⟨k0,k1,x,y,e0,e1,hx,hy,hn,rfl⟩:=w.inv7 nb k
  have hkl:s.kids.length=2:=by
   have:=so.kids_.1
   rw [k] at this
   simpa [kidsOf] using this.symm
  have hj:j < 2:=hj
  refine ⟨by omega,?_,.inr ⟨rfl,rfl,rfl,rfl⟩⟩
  rw [hkl,Nat.mod_eq_of_lt hj]
  rcases (by omega:j=0∨j=1) with rfl|rfl
  ·rw [Shp.kid_eq e0];exact hx
  ·rw [Shp.kid_eq e1];exact hy
theorem inner_e {ts:List Tbl} (T:TsOk ts) {d:Nat} (ih:PiecesAt ts d) {Z:Zone} {cl sc ce:List Value} {l:Lat} {s:Shp} {e:El} (hts:l.1=ts) (hl:LatR Z cl l) (hs:ShR Z s sc) (he:ElR Z e ce) (w:IsW ts (d+1) s e) (g:¬ e.Great) (so:s.Ok) (hk:e.kind≠1∧e.kind≠2∧e.kind≠3∧e.kind≠4∧e.kind≠5)
  (yv:Value) (hyv:cellsL yv=[yv]) (A0:List SA) (J:List El→Zone→List SA→Prop) (hm:∀ done Z' Z'' A',Ext Z' Z''→J done Z' A'→J done Z'' A') (h0:J [] Z A0)
  (hstep:∀ done x rest Z' A' cs,piecesE ts (d+1) s e=done++x::rest→Ext Z Z'→J done Z' A'→ElR Z' x cs→Cz M yv [.agg ⟨cs⟩] Z' A' (fun v Z'' A''=>v=.bool true∧J (done++[x]) Z'' A'')) :
  Cz M (.func (.func 115) #[] #[]) [.agg ⟨cl⟩,.agg ⟨sc⟩,.agg ⟨ce⟩,yv] Z A0 (fun v Z' A'=>J (piecesE ts (d+1) s e) Z' A'):=by
 have hpk:=pieces_kids so w hk
 rw [hpk] at hstep ⊢
 have hl0:=hl
 have hs0:=hs
 have he0:=he
 have sg:=small_iff.1 g
 obtain ⟨l1,l2,l3,l4,rfl,hT,_⟩:=hl.form
 obtain ⟨p1,p2,usk,rfl,hsk,hsL⟩:=hs.form
 obtain ⟨q1,q2,q3,q4,ue,rfl,ek,es,eL⟩:=he.form
 refine Cz.fn (f:=Tryz.f115) Ev.cM rfl rfl rfl _ rfl ?_
 repeat first|refine go ?_|with_reducible intro _
 refine Wk.boxS rfl rfl rfl hyv fun b7=>?_
 rename_i b4 b5 b6
 apply Wk.freezer (b:=b4)
 case p=>repeat (first|exact Rem.head|apply Rem.tail)
 intro Z1 e1 h4
 apply Wk.freezer (b:=b5)
 case p=>repeat (first|exact Rem.head|apply Rem.tail)
 intro Z2 e2 h5
 apply Wk.freezer (b:=b6)
 case p=>repeat (first|exact Rem.head|apply Rem.tail)
 intro Z3 e3 h6
 apply Wk.freezer (b:=b7)
 case p=>repeat (first|exact Rem.head|apply Rem.tail)
 intro Z4 e4 h7
 replace h4:=e4 _ _ (e3 _ _ (e2 _ _ h4))
 replace h5:=e4 _ _ (e3 _ _ h5)
 replace h6:=e4 _ _ h6
 have e14:=((e1.trans e2).trans e3).trans e4
 refine Ev.gT ?_
 refine Wk.loop (fun w L Z' A'=>∃ j:Nat,j≤e.kids.length∧w=e.kids.length - j∧Ext Z4 Z'∧J ((List.range j).flatMap (kidP ts d s e)) Z' A'∧Kp L [(4,.pointer (some ⟨b4,0,none⟩)),(5,.pointer (some ⟨b5,0,none⟩)),(6,.pointer (some ⟨b6,0,none⟩)),(7,.pointer (some ⟨b7,0,none⟩)),(13,.slice q3 e.kids.length q4),(14,.int .i64 e.kids.length),(15,.int .i64 j)]) e.kids.length ⟨0,Nat.zero_le _,rfl,Ext.refl _,hm _ _ _ _ e14 h0,Ev.kM⟩ ?_
 rintro w L Z5 A' - ⟨j,hj,rfl,e5,hJ,hk2⟩
 refine Wk.kp hk2 ?_
 clear hk2
 have e15:=e14.trans e5
 have h4':=e5 _ _ h4
 have h5':=e5 _ _ h5
 have h6':=e5 _ _ h6
 have h7':=e5 _ _ h7
 have es':=es.mono e15
 have hsk':=hsk.mono e15
 refine Ev.gT ?_
 refine Wk.cond rfl (fun hc=>?_) (fun hc=>?_)
 ·have hlt:j < e.kids.length:=by simp at hc;omega
  clear hc
  obtain ⟨hsl,hkw,hkk⟩:=kids_kind so w hk hlt
  have hmod:j % s.kids.length < s.kids.length:=Nat.mod_lt _ hsl
  obtain ⟨k',n',x1,m1,y1,x2,m2,y2,gx,rrx⟩:=eL.get j hlt
  obtain ⟨ks',ns',a0,m0,c0,gs0,rs0⟩:=hsL.get (j % s.kids.length) hmod
  have hkid:e.kids[j]=e.kd j:=by simp [El.kd,hlt]
  have hskid:s.kids[j % s.kids.length]=s.kid (j % s.kids.length):=(Shp.kid_eq (List.getElem?_eq_getElem hmod)).symm
  have gk:¬ (e.kd j).Great:=by rw [←hkid];exact sg.2 _ (List.getElem_mem hlt)
  have sok:(s.kid (j % s.kids.length)).Ok:=by rw [←hskid];exact so.kids_.2 _ (List.getElem_mem hmod)
  rw [hkid] at rrx
  rw [hskid] at rs0
  repeat first|refine go ?_|with_reducible intro _
  rename_i _ _ _ b8 b9
  apply Wk.freeze (b:=b8)
  case p=>repeat (first|exact Rem.head|apply Rem.tail)
  intro Z6 e6 h8
  apply Wk.freeze (b:=b9)
  case p=>repeat (first|exact Rem.head|apply Rem.tail)
  intro Z7 e7 h9
  have e67:=e6.trans e7
  replace h8:=e7 _ _ h8
  have h4'':=e67 _ _ h4'
  have h5'':=e67 _ _ h5'
  have h6'':=e67 _ _ h6'
  have h7'':=e67 _ _ h7'
  have hsk'':=hsk'.mono e67
  have e17:=e15.trans e67
  clear h4 h5 h6 h7 h4' h5' h6' h7' hsk' es'
  refine Ev.gT ?_
  refine Wk.drawr (ms:=[0,0,2,0,0,16,48,120,254,510,0,2047]) (l:=[0,1,2,3,4,5,6,7,8,9,10,11]) Ev.cM Ev.cM Ev.cM rfl ?_
  repeat first|refine go ?_|with_reducible intro _
  refine Wk.call rfl rfl (Spl.none _) (ih hts (hl0.mono e17) (rs0.mono e17) (rrx.mono e17) hkw gk sok) Ev.cM rfl rfl ?_
  rintro v31 Z8 A8 hz8 ⟨hY,rfl⟩
  obtain ⟨after,hafter⟩:=flatMap_range (kidP ts d s e) hlt
  refine Ev.gT ?_
  refine rangeY (l:=piecesE ts d (s.kid (j % s.kids.length)) (e.kd j)) (fun done Z' A'=>Ext Z8 Z'∧J ((List.range j).flatMap (kidP ts d s e)++done.map (wrK e j)) Z' A') (fun _ _ _=>rfl) rfl hY rfl (by simp) (fun done Z' Z'' A' hz h=>⟨h.1.trans hz,hm _ _ _ _ hz h.2⟩) ⟨Ext.refl _,by simpa using hm _ _ _ _ (e67.trans hz8) hJ⟩ ?_ ?_
  ·rintro done x rest Z9 A9 cs q hsplit hz9 ⟨hz89,hJ9⟩ hx
   have hx0:=hx
   obtain ⟨w1,w2,w3,w4,uw,rfl,_,_,_⟩:=hx.form
   repeat first|refine go ?_|with_reducible intro _
   rename_i b10
   refine Wk.done ⟨rfl,_,.tail .head,?_⟩
   have e79:=hz8.trans hz9
   have h6c:=e79 _ _ h6''
   have h7c:=e79 _ _ h7''
   have h8c:=e79 _ _ h8
   have h9c:=e79 _ _ h9
   have hwhole:(List.range e.kids.length).flatMap (kidP ts d s e)=((List.range j).flatMap (kidP ts d s e)++done.map (wrK e j))++wrK e j x::(rest.map (wrK e j)++after):=by
    rw [hafter,kidP,hsplit];simp
   refine Ev.gT ?_
   refine Wk.bs (cs:=[.int .u8 x.kind,.int .i64 x.n,.slice w1 x.keys.length w2,.slice w3 x.kids.length w4]) rfl rfl rfl rfl rfl rfl rfl fun b34=>?_
   repeat first|refine go ?_|with_reducible intro _
   rename_i b11
   refine Wk.cond rfl (fun hc=>?_) (fun hc=>?_)
   ·have k7:e.kind=7:=by simpa using hc
    clear hc
    obtain ⟨_,_,_,hl2⟩:e.kind=7∧e.n=0∧e.keys.length=0∧e.kids.length=2:=by
     rcases hkk with h|h
     ·rw [k7] at h;exact absurd h.1 (by decide)
     ·exact h
    rcases (by omega:j=0∨j=1) with rfl|rfl
    ·refine Ev.gT ?_
     refine Wk.mks 2 2 rfl rfl rfl rfl rfl rfl rfl rfl (Nat.le_refl _) (by decide) (by decide) fun b39=>?_
     refine Ev.gT ?_
     refine Wk.iaV 0 rfl rfl rfl rfl rfl rfl rfl Ev.wM ?_
     refine Ev.gT ?_
     apply Wk.freezer (b:=b39)
     case p=>repeat (first|exact Rem.head|apply Rem.tail)
     intro Z10 e10 h39
     apply Wk.freezer (b:=b11)
     case p=>repeat (first|exact Rem.head|apply Rem.tail)
     intro Z12 e12 h11
     apply Wk.freezer (b:=b10)
     case p=>repeat (first|exact Rem.head|apply Rem.tail)
     intro Z13 e13 h10
     apply Wk.freezer (b:=b34)
     case p=>repeat (first|exact Rem.head|apply Rem.tail)
     intro Z14 e14' h34
     have e9d:=((e10.trans e12).trans e13).trans e14'
     have h7d:=e9d _ _ h7c
     replace h39:=e14' _ _ (e13 _ _ (e12 _ _ h39))
     have hone:ElR Z14 (wrK e 0 x) [.int .u8 7,.int .i64 0,.slice none 0 0,.slice (some ⟨b39,0,none⟩) 2 2]:=by
      have hw:wrK e 0 x=.mk 7 0 [] [x,El.bot]:=by simp [wrK,k7]
      rw [hw]
      exact ElR.of (s:=.mk 7 0 [] [x,El.bot]) (.inl ⟨rfl,rfl,rfl⟩) (.inr ⟨b39,0,2,_,_,_,rfl,Nat.le_refl _,h39,rfl,.inl rfl⟩) (ElRL.snoc (ElR_bot _) (ElRL.snoc (hx0.mono e9d) (l:=[]) (us:=[]) (by simp [ElRL])))
     refine Wk.call rfl rfl (.r (Spl.all _)) (hstep _ _ _ _ _ _ hwhole (e17.trans (hz8.trans (hz9.trans e9d))) (hm _ _ _ _ e9d hJ9) hone) rfl rfl rfl ?_
     rintro v' Z15 A15 hz15 ⟨rfl,hJ15⟩
     refine Ev.gT ?_
     refine Wk.done ⟨rfl,_,Rem_last,hz89.trans (e9d.trans hz15),?_⟩
     simpa using hJ15
    ·refine Ev.gT ?_
     refine Wk.mks 2 2 rfl rfl rfl rfl rfl rfl rfl rfl (Nat.le_refl _) (by decide) (by decide) fun b39=>?_
     refine Ev.gT ?_
     refine Wk.iaV 1 rfl rfl rfl rfl rfl rfl rfl Ev.wM ?_
     refine Ev.gT ?_
     apply Wk.freezer (b:=b39)
     case p=>repeat (first|exact Rem.head|apply Rem.tail)
     intro Z10 e10 h39
     apply Wk.freezer (b:=b11)
     case p=>repeat (first|exact Rem.head|apply Rem.tail)
     intro Z12 e12 h11
     apply Wk.freezer (b:=b10)
     case p=>repeat (first|exact Rem.head|apply Rem.tail)
     intro Z13 e13 h10
     apply Wk.freezer (b:=b34)
     case p=>repeat (first|exact Rem.head|apply Rem.tail)
     intro Z14 e14' h34
     have e9d:=((e10.trans e12).trans e13).trans e14'
     have h7d:=e9d _ _ h7c
     replace h39:=e14' _ _ (e13 _ _ (e12 _ _ h39))
     have hone:ElR Z14 (wrK e 1 x) [.int .u8 7,.int .i64 0,.slice none 0 0,.slice (some ⟨b39,0,none⟩) 2 2]:=by
      have hw:wrK e 1 x=.mk 7 0 [] [El.bot,x]:=by simp [wrK,k7]
      rw [hw]
      exact ElR.of (s:=.mk 7 0 [] [El.bot,x]) (.inl ⟨rfl,rfl,rfl⟩) (.inr ⟨b39,0,2,_,_,_,rfl,Nat.le_refl _,h39,rfl,.inl rfl⟩) (ElRL.snoc (hx0.mono e9d) (ElRL.snoc (ElR_bot _) (l:=[]) (us:=[]) (by simp [ElRL])))
     refine Wk.call rfl rfl (.r (Spl.all _)) (hstep _ _ _ _ _ _ hwhole (e17.trans (hz8.trans (hz9.trans e9d))) (hm _ _ _ _ e9d hJ9) hone) rfl rfl rfl ?_
     rintro v' Z15 A15 hz15 ⟨rfl,hJ15⟩
     refine Ev.gT ?_
     refine Wk.done ⟨rfl,_,Rem_last,hz89.trans (e9d.trans hz15),?_⟩
     simpa using hJ15
   ·have k6:e.kind=6∧e.n=0∧e.keys.length=e.kids.length:=by
     rcases hkk with h|h
     ·exact h
     ·exfalso;simp [h.1] at hc
    clear hc
    have hjk:j < e.keys.length:=by omega
    have ek9:=ek.mono (e17.trans (hz8.trans hz9))
    repeat first|refine go ?_|with_reducible intro _
    refine Wk.bs (cs:=[.int .i64 e.keys[j]]) rfl rfl rfl rfl rfl rfl rfl fun b51=>?_
    refine Ev.gT ?_
    apply Wk.freezer (b:=b34)
    case p=>repeat (first|exact Rem.head|apply Rem.tail)
    intro Z10 e10 h34
    apply Wk.freezer (b:=b51)
    case p=>repeat (first|exact Rem.head|apply Rem.tail)
    intro Z11 e11 h51
    apply Wk.freezer (b:=b11)
    case p=>repeat (first|exact Rem.head|apply Rem.tail)
    intro Z12 e12 h11
    apply Wk.freezer (b:=b10)
    case p=>repeat (first|exact Rem.head|apply Rem.tail)
    intro Z13 e13 h10
    have e9d:=((e10.trans e11).trans e12).trans e13
    have h7d:=e9d _ _ h7c
    replace h11:=e13 _ _ h11
    replace h51:=e13 _ _ (e12 _ _ h51)
    replace h34:=e13 _ _ (e12 _ _ (e11 _ _ h34))
    have hone:ElR Z13 (wrK e j x) [.int .u8 6,.int .i64 0,.slice (some ⟨b51,0,none⟩) 1 1,.slice (some ⟨b34,0,none⟩) 1 1]:=by
     have hw:wrK e j x=.mk 6 0 [e.keys[j]] [x]:=by simp [wrK,k6.1,hjk]
     rw [hw]
     exact ElR.of (s:=.mk 6 0 [e.keys[j]] [x]) (.inr ⟨b51,0,1,_,_,_,rfl,Nat.le_refl _,h51,rfl,.inl rfl⟩) (.inr ⟨b34,0,1,_,_,_,rfl,Nat.le_refl _,h34,rfl,.inl rfl⟩) (ElRL.snoc (hx0.mono e9d) (l:=[]) (us:=[]) (by simp [ElRL]))
    refine Ev.gT ?_
    refine Wk.call rfl rfl (.r (Spl.all _)) (hstep _ _ _ _ _ _ hwhole (e17.trans (hz8.trans (hz9.trans e9d))) (hm _ _ _ _ e9d hJ9) hone) rfl rfl rfl ?_
    rintro v' Z14 A14 hz14 ⟨rfl,hJ14⟩
    refine Ev.gT ?_
    refine Wk.done ⟨rfl,_,Rem_last,hz89.trans (e9d.trans hz14),?_⟩
    simpa using hJ14
  ·rintro Z9 A9 hz9 ⟨hz89,hJ9⟩
   have e19:=hz8.trans hz9
   refine Ev.gT ?_
   refine Wk.inv ⟨_,by omega,j+1,hlt,rfl,e5.trans (e67.trans e19),?_,Ev.kM⟩
   rw [List.range_succ,List.flatMap_append]
   simpa [kidP] using hJ9
 ·have hjn:j=e.kids.length:=by simp at hc;omega
  subst hjn
  refine Ev.gT ?_
  refine Wk.done ⟨_,Rs.nil,_,Sub.refl _,?_⟩
  exact hJ
end Go.Proofs.J
namespace Go.Proofs.J
open Go.Ev Go
theorem el_kinds {ts:List Tbl} {d:Nat} {s:Shp} {e:El} (w:IsW ts (d+1) s e):(e.kind=1∨e.kind=2∨e.kind=3)∨(e.kind=4∧∃ (t:Tbl) (m:Nat),Tof ts s.name t∧1≤m∧m < t.elems.length∧e=.mk 4 m [] [])∨(e.kind=5∧∃ ks,Ks ks∧e=.mk 5 0 ks [])∨(e.kind≠1∧e.kind≠2∧e.kind≠3∧e.kind≠4∧e.kind≠5):=by
 by_cases nb:e=El.bot
 ·subst nb;exact .inr (.inr (.inr (by simp [El.bot,El.kind])))
 rcases w.kinds nb with k|k|k|k|k|k|k
 ·rw [w.inv1 nb k];exact .inl (.inl rfl)
 ·obtain ⟨m,hm,rfl⟩:=w.inv2 nb k;exact .inl (.inr (.inl rfl))
 ·rcases w.inv4 nb k with ⟨m,hm,rfl⟩|rfl
  ·exact .inl (.inr (.inl rfl))
  ·exact .inl (.inr (.inr rfl))
 ·obtain ⟨t,m,ht,h1,h2,rfl⟩:=w.inv5 nb k;exact .inr (.inl ⟨rfl,t,m,ht,h1,h2,rfl⟩)
 ·obtain ⟨ks,hk2,rfl⟩:=w.inv3 nb k;exact .inr (.inr (.inl ⟨rfl,ks,hk2,rfl⟩))
 ·obtain ⟨k0,ks,l,e0,hks,hl,hx,rfl⟩:=w.inv6 nb k;exact .inr (.inr (.inr (by simp [El.kind])))
 ·obtain ⟨k0,k1,x,y,e0,e1,hx,hy,hn,rfl⟩:=w.inv7 nb k;exact .inr (.inr (.inr (by simp [El.kind])))
theorem pieces_flat {ts:List Tbl} {d:Nat} {s:Shp} {e:El} (h:e.kind=1∨e.kind=2∨e.kind=3):piecesE ts (d+1) s e=[e]:=by rw [piecesE,if_pos h]
theorem map_split {α β:Type} {l:List α} {i:Nat} (h:i < l.length) (f:α→β):l.map f=(l.take i).map f++f l[i]::(l.drop (i+1)).map f:=by
 rw [←List.map_cons,←List.drop_eq_getElem_cons h,←List.map_append,List.take_append_drop]
theorem pieces1_e {ts:List Tbl} (T:TsOk ts) {d:Nat} (ih:PiecesAt ts d) {Z:Zone} {b2 b3 b5:Nat} {cl sc ce:List Value} {l:Lat} {s:Shp} {e:El} (h2:Z b2=some (.cells cl true 0)) (h3:Z b3=some (.cells sc true 0)) (h5:Z b5=some (.cells ce true 0)) (hts:l.1=ts) (hl:LatR Z cl l) (hs:ShR Z s sc) (he:ElR Z e ce) (w:IsW ts (d+1) s e) (g:¬ e.Great) (so:s.Ok) :
  YieldsE Z (.func (.func 113) #[] ⟨[.pointer (some ⟨b5,0,none⟩),.pointer (some ⟨b2,0,none⟩),.pointer (some ⟨b3,0,none⟩)]⟩) (piecesE ts (d+1) s e):=by
 intro yv Z1 A0 J e1 hyv hm h0 hstep
 replace h2:=e1 _ _ h2
 replace h3:=e1 _ _ h3
 replace h5:=e1 _ _ h5
 replace hl:=hl.mono e1
 replace hs:=hs.mono e1
 replace he:=he.mono e1
 have hl0:=hl
 have hs0:=hs
 have he0:=he
 have sg:=small_iff.1 g
 have fe:=w.fit T.ok g
 obtain ⟨l1,l2,l3,l4,rfl,hT,_⟩:=hl.form
 obtain ⟨p1,p2,usk,rfl,hsk,hsL⟩:=hs.form
 obtain ⟨q1,q2,q3,q4,ue,rfl,ek,es,eL⟩:=he.form
 rcases el_kinds w with hk|⟨k,t,m,ht,hm1,hm2,rfl⟩|⟨k,ks,hks,rfl⟩|hk
 ·rw [pieces_flat hk] at hstep ⊢
  rcases hk with k|k|k <;>
  ·rw [k] at h5 he0
   refine Cz.fn (f:=Tryz.f113) Ev.cM rfl rfl rfl _ rfl ?_
   refine Ev.gT ?_
   refine Wk.call rfl rfl (Spl.none _) (clone_ (d+1) fe he0) rfl rfl rfl ?_
   rintro v' Z2 A' hz ⟨cs',rfl,hR,rfl⟩
   refine Ev.gT ?_
   refine Wk.call rfl rfl (Spl.all _) (hstep [] e [] _ _ _ rfl hz (hm _ _ _ _ hz h0) hR) rfl rfl rfl ?_
   rintro v' Z3 A3 hz3 ⟨rfl,hJ⟩
   refine Ev.gT ?_
   refine Wk.done ⟨_,Rs.nil,_,Sub.refl _,?_⟩
   rw [List.append_nil]
   exact hJ
 ·-- named
  have htm:t∈l.1:=by rw [hts];exact ht.mem
  rw [pieces_4,ht.eq] at hstep ⊢
  have e9:((m:Int)).toNat=m:=rfl
  rw [e9] at hstep ⊢
  refine Cz.fn (f:=Tryz.f113) Ev.cM rfl rfl rfl _ rfl ?_
  refine Ev.gT ?_
  refine Wk.drawr (ms:=[0,0,3,0,8,31,63,127,127,255,1023]) (l:=[0,1,3,4,2,5,6,7,8,9,10]) Ev.cM Ev.cM Ev.cM rfl ?_
  refine Ev.gT ?_
  refine Wk.callD rfl rfl (Spl.none _) (table_ hl0 hs0 (by rw [hts];exact T.len) ⟨t,htm,by rcases ht with ⟨_,_,_,h,_⟩;exact h⟩) rfl rfl fun v31 Z9 A' hz9 hq=>?_
  obtain ⟨⟨t',nm,a1,m1,c1,a2,m2,c2,a3,m3,c3,rfl,hto,htb⟩,rfl,rfl⟩:=hq
  rw [hts] at hto
  obtain rfl:=ht.uniq hto
  refine ⟨?_,?_⟩
  ·exact Ev.pM2
  refine Ev.gT ?_
  refine Wk.call rfl rfl (Spl.none _) (oParts htb (T.sm _ ht.mem) (T.ok _ ht.mem) (T.lat _ ht.mem) rfl m hm2) Ev.cM rfl rfl ?_
  rintro v34 Z2 A' hz ⟨vs,rfl,rfl⟩
  first|apply Wk.olFreezer (v:=vs)|apply Wk.olFreeze (v:=vs)
  case p=>repeat (first|exact Rem.head|apply Rem.tail)
  intro Z3 e3 s3
  obtain ⟨q5,c5,rfl⟩:=s3.form
  have hpl:(t.parts m).length≤12:=by
   have h12:t.elems.length≤12:=(T.ok _ ht.mem).2.2.1
   have:(t.parts m).length≤t.elems.length:=by unfold Tbl.parts;exact Nat.le_trans (List.length_filter_le ..) (by simp)
   omega
  have hz13:=hz.trans e3
  refine Ev.gT ?_
  refine Wk.loop (fun w L Z' A'=>∃ i:Nat,i≤(t.parts m).length∧w=(t.parts m).length - i∧Ext Z3 Z'∧J (((t.parts m).take i).map fun p:Nat=>El.mk 4 (p:Nat) [] []) Z' A'∧Kp L [(0,yv),(37,.slice q5 (t.parts m).length c5),(38,.int .i64 (t.parts m).length),(39,.int .i64 i)]) (t.parts m).length ⟨0,Nat.zero_le _,rfl,Ext.refl _,by simpa using hm _ _ _ _ hz13 h0,Ev.kM⟩ ?_
  rintro w L Z4 A4 - ⟨i,hi,rfl,e4,hJ,hkp⟩
  refine Wk.kp hkp ?_
  clear hkp
  have s4:=s3.mono e4
  refine Ev.gT ?_
  refine Wk.cond rfl (fun hc=>?_) (fun hc=>?_)
  ·have hlt:i < (t.parts m).length:=by simp at hc;omega
   clear hc
   have hgi:getCells (nats (t.parts m)) (i*1) 1=some [.int .i64 ((t.parts m)[i]:Nat)]:=getCells_one (by rw [Nat.mul_one];exact nats_get hlt)
   repeat first|refine go ?_|with_reducible intro _
   refine Wk.call rfl rfl (Spl.all _) (hstep _ _ _ _ _ _ (map_split hlt _) (hz13.trans e4) hJ (ElR_flat _ 4 ((t.parts m)[i]:Nat))) rfl rfl rfl ?_
   rintro v' Z5 A5 hz5 ⟨rfl,hJ5⟩
   rw [List.append_nil]
   refine Ev.gT ?_
   refine Wk.inv ⟨_,by omega,i+1,hlt,rfl,e4.trans hz5,?_,Ev.kM⟩
   rw [List.take_succ_eq_append_getElem hlt,List.map_append]
   exact hJ5
  ·have hin:i=(t.parts m).length:=by simp at hc;omega
   rw [hin,List.take_length] at hJ
   refine Ev.gT ?_
   refine Wk.done ⟨_,Rs.nil,_,Sub.refl _,hJ⟩
 ·rw [pieces_5] at hstep ⊢
  have hkl:ks.length≤40:=sg.1
  refine Cz.fn (f:=Tryz.f113) Ev.cM rfl rfl rfl _ rfl ?_
  refine Ev.gT ?_
  refine Wk.loop (fun w L Z' A'=>∃ i:Nat,i≤ks.length∧w=ks.length - i∧Ext Z1 Z'∧J ((ks.take i).map fun k=>El.mk 5 0 [k] []) Z' A'∧Kp L [(0,yv),(52,.slice q1 ks.length q2),(53,.int .i64 ks.length),(54,.int .i64 i)]) ks.length ⟨0,Nat.zero_le _,rfl,Ext.refl _,by simpa using h0,Ev.kM⟩ ?_
  rintro w L Z4 A4 - ⟨i,hi,rfl,e4,hJ,hkp⟩
  refine Wk.kp hkp ?_
  clear hkp
  have s4:Sl Z4 1 (.slice q1 ks.length q2) ks.length (nums ks):=ek.mono e4
  refine Ev.gT ?_
  refine Wk.cond rfl (fun hc=>?_) (fun hc=>?_)
  ·have hlt:i < ks.length:=by simp at hc;omega
   clear hc
   repeat first|refine go ?_|with_reducible intro _
   refine Wk.bs (cs:=[.int .i64 ks[i]]) rfl rfl rfl rfl rfl rfl rfl fun b60=>?_
   apply Wk.freezer (b:=b60)
   case p=>repeat (first|exact Rem.head|apply Rem.tail)
   intro Z5 e5 h60
   refine Ev.gT ?_
   refine Wk.call rfl rfl (Spl.all _) (hstep _ _ _ _ _ _ (map_split hlt _) (e4.trans e5) (hm _ _ _ _ e5 hJ) (ElR.of (s:=.mk 5 0 [ks[i]] []) (.inr ⟨b60,0,1,_,_,_,rfl,Nat.le_refl _,h60,rfl,.inl rfl⟩) (.inl ⟨rfl,rfl,rfl⟩) (by simp [ElRL,El.kids]))) rfl rfl rfl ?_
   rintro v' Z6 A6 hz6 ⟨rfl,hJ6⟩
   rw [List.append_nil]
   refine Ev.gT ?_
   refine Wk.inv ⟨_,by omega,i+1,hlt,rfl,e4.trans (e5.trans hz6),?_,Ev.kM⟩
   rw [List.take_succ_eq_append_getElem hlt,List.map_append]
   exact hJ6
  ·have hin:i=ks.length:=by simp at hc;omega
   rw [hin,List.take_length] at hJ
   refine Ev.gT ?_
   refine Wk.done ⟨_,Rs.nil,_,Sub.refl _,hJ⟩
 ·obtain ⟨n1,n2,n3,n4,n5⟩:=hk
  have c1:(e.kind==1)=false:=by simpa using n1
  have c2:(e.kind==2)=false:=by simpa using n2
  have c3:(e.kind==3)=false:=by simpa using n3
  have c4:(e.kind==4)=false:=by simpa using n4
  have c5:(e.kind==5)=false:=by simpa using n5
  refine Cz.fn (f:=Tryz.f113) Ev.cM rfl rfl rfl _ rfl ?_
  refine Ev.gT ?_
  refine Wk.cond rfl (fun hc=>?_) (fun hc=>?_)
  ·rw [c1] at hc;cases hc
  refine Ev.gT ?_
  refine Wk.cond rfl (fun hc=>?_) (fun hc=>?_)
  ·rw [c2] at hc;cases hc
  refine Ev.gT ?_
  refine Wk.cond rfl (fun hc=>?_) (fun hc=>?_)
  ·rw [c3] at hc;cases hc
  refine Ev.gT ?_
  refine Wk.cond rfl (fun hc=>?_) (fun hc=>?_)
  ·rw [c4] at hc;cases hc
  refine Ev.gT ?_
  refine Wk.cond rfl (fun hc=>?_) (fun hc=>?_)
  ·rw [c5] at hc;cases hc
  refine Ev.gT ?_
  refine Wk.call rfl rfl (Spl.all _) (inner_e T ih hts hl0 hs0 he0 w g so ⟨n1,n2,n3,n4,n5⟩ yv hyv A0 J hm h0 hstep) rfl rfl rfl ?_
  rintro v' Z2 A2 hz2 hJ
  rw [List.append_nil]
  refine Ev.gT ?_
  refine Wk.done ⟨_,Rs.nil,_,Sub.refl _,hJ⟩
theorem pieces_succ {ts:List Tbl} (T:TsOk ts) {d:Nat} (ih:PiecesAt ts d) {Z:Zone} {cl sc ce:List Value} {l:Lat} {s:Shp} {e:El} (hts:l.1=ts) (hl:LatR Z cl l) (hs:ShR Z s sc) (he:ElR Z e ce) (w:IsW ts (d+1) s e) (g:¬ e.Great) (so:s.Ok) :
  Cz M (.func (.func 77) #[] #[]) [.agg ⟨cl⟩,.agg ⟨sc⟩,.agg ⟨ce⟩] Z [] (fun v' Z' A'=>YieldsE Z' v' (piecesE ts (d+1) s e)∧A'=[]):=by
 have hl0:=hl
 have hs0:=hs
 have he0:=he
 obtain ⟨l1,l2,l3,l4,rfl,hT,_⟩:=hl.form
 obtain ⟨p1,p2,usk,rfl,hsk,hsL⟩:=hs.form
 obtain ⟨q1,q2,q3,q4,ue,rfl,ek,es,eL⟩:=he.form
 refine Cz.fn (f:=Tryz.f77) Ev.cM rfl rfl rfl _ rfl ?_
 repeat first|refine go ?_|with_reducible intro _
 rename_i b3 b4 b5
 apply Wk.freeze (b:=b3)
 case p=>repeat (first|exact Rem.head|apply Rem.tail)
 intro Z1 e1 h3
 apply Wk.freeze (b:=b4)
 case p=>repeat (first|exact Rem.head|apply Rem.tail)
 intro Z2 e2 h4
 apply Wk.freeze (b:=b5)
 case p=>repeat (first|exact Rem.head|apply Rem.tail)
 intro Z3 e3 h5
 have e13:=(e1.trans e2).trans e3
 replace h3:=e3 _ _ (e2 _ _ h3)
 replace h4:=e3 _ _ h4
 refine Ev.gT ?_
 refine Wk.ret ⟨_,Rs.tmp rfl Rs.nil,_,Sub.refl _,pieces1_e T ih h3 h4 h5 hts (hl0.mono e13) (hs0.mono e13) (he0.mono e13) w g so,rfl⟩
theorem pieces_e {ts:List Tbl} (T:TsOk ts):∀ (d:Nat),PiecesAt ts d
 | 0=>fun hts hl hs he w g so=>absurd w (by simp [IsW])
 | d+1=>fun hts hl hs he w g so=>pieces_succ T (pieces_e T d) hts hl hs he w g so
end Go.Proofs.J
namespace Go.Proofs.J
open Go.Ev Go
noncomputable def deltaR (l:Lat) (a b:El):Int×El:=if ElsE l [a,b]≠0 then (ElsE l [a,b],El.bot) else (0,deltaE l.1 4 l.2 a b)
open Classical in
noncomputable def dUp (ts:List Tbl) (s:Shp) (a:El) (done:List El):El:=foldJ ts 4 s (done.filter fun p=>decide (¬ LeE ts 4 s p a))
theorem dUp_yes {ts:List Tbl} {s:Shp} {a x:El} {done:List El} (h:LeE ts 4 s x a):dUp ts s a (done++[x])=dUp ts s a done:=by
 unfold dUp;rw [List.filter_append];simp [h]
theorem dUp_no {ts:List Tbl} {s:Shp} {a x:El} {done:List El} (h:¬ LeE ts 4 s x a):dUp ts s a (done++[x])=joinE ts 4 s (dUp ts s a done) x:=by
 unfold dUp;rw [List.filter_append];simp only [List.filter_cons,List.filter_nil,h,not_false_eq_true,decide_true,if_true];exact foldJ_snoc
theorem dUp_all {ts:List Tbl} {s:Shp} {a b:El}:dUp ts s a (piecesE ts 4 s b)=deltaE ts 4 s a b:=rfl
theorem dUp_ok {ts:List Tbl} (L:Lats ts) {s:Shp} {a b:El} (wb:IsW ts 4 s b) (gb:¬ b.Great) {done rest:List El} {x:El} (h:piecesE ts 4 s b=done++x::rest) :
  (IsW ts 4 s x∧¬ x.Great)∧IsW ts 4 s (dUp ts s a done)∧¬ (dUp ts s a done).Great:=by
 classical
 have hp:∀ p∈piecesE ts 4 s b,IsW ts 4 s p∧LeE ts 4 s p b:=fun p hp=>⟨(pieces_pc L wb hp).w,(pieces_le L wb wb).2 (LeE.refl L wb) p hp⟩
 have hx:=hp x (by rw [h];simp)
 have hd:∀ y∈done.filter fun p=>decide (¬ LeE ts 4 s p a),IsW ts 4 s y∧LeE ts 4 s y b:=fun y hy=>hp y (by rw [h];exact List.mem_append_left _ (List.mem_filter.1 hy).1)
 have wd:IsW ts 4 s (dUp ts s a done):=foldJ_W L fun y hy=>(hd y hy).1
 exact ⟨⟨hx.1,hx.2.small L hx.1 wb gb⟩,wd,(foldJ_le L (fun y hy=>(hd y hy).1) wb fun y hy=>(hd y hy).2).small L wd wb gb⟩
theorem elemDelta {Z:Zone} {cl ca cb:List Value} {l:Lat} {a b:El} {dd:Nat} (hl:LatR Z cl l) (ht:l.Th) (ha:ElR Z a ca) (hb:ElR Z b cb) (fa:a.Fit dd) (fb:b.Fit dd) :
  Cz M (.func (.func 41) #[] #[]) [.agg ⟨cl⟩,.agg ⟨ca⟩,.agg ⟨cb⟩] Z [] (fun v' Z' A'=>∃ cs,v'=.tuple ⟨[.agg ⟨cs⟩,.int .i64 (deltaR l a b).1]⟩∧ElR Z' (deltaR l a b).2 cs∧A'=[]):=by
 have hl0:=hl
 have ha0:=ha
 have hb0:=hb
 obtain ⟨l1,l2,l3,l4,rfl,hT,hS⟩:=hl.form
 obtain ⟨q1,q2,q3,q4,ua,rfl,ak,as_,aL⟩:=ha.form
 obtain ⟨r1,r2,r3,r4,ub,rfl,bk,bs_,bL⟩:=hb.form
 refine Cz.fn (f:=Tryz.f41) Ev.cM rfl rfl rfl _ rfl ?_
 repeat first|refine go ?_|with_reducible intro _
 rename_i b3 b4 b5 b6
 refine Wk.bs (cs:=[.int .u8 a.kind,.int .i64 a.n,.slice q1 a.keys.length q2,.slice q3 a.kids.length q4,.int .u8 b.kind,.int .i64 b.n,.slice r1 b.keys.length r2,.slice r3 b.kids.length r4]) rfl rfl rfl rfl rfl rfl rfl fun b9=>?_
 first|refine Wk.freezer Rem.head fun Z1 e1 h9=>?_|refine Wk.freeze Rem.head fun Z1 e1 h9=>?_
 refine Ev.gT ?_
 refine Wk.call rfl rfl (Spl.none _) (open_E (hl0.mono e1) ht (ElsR_two (ha0.mono e1) (hb0.mono e1) h9) (by simp) (Fit2 fa fb)) rfl rfl rfl ?_
 rintro v' Z' A' hz ⟨⟨cs,rfl,hcl,hL1⟩,rfl,rfl⟩
 have hL0:=hL1
 obtain ⟨m1,m2,m3,m4,rfl,_,_⟩:=hL1.form
 repeat first|refine go ?_|with_reducible intro _
 rename_i b8
 refine Wk.cond rfl (fun hc=>?_) (fun hc=>?_)
 ·have hne:ElsE l [a,b]≠0:=by simpa using hc
  have hj:deltaR l a b=(ElsE l [a,b],El.bot):=by unfold deltaR;rw [if_pos hne]
  rw [hj]
  refine Ev.gT ?_
  refine Wk.ret ⟨_,Rs.cell rfl rfl Ev.hM rfl rfl (Rs.tmp rfl Rs.nil),_,Sub.none _,_,rfl,ElR_bot _,rfl⟩
 ·have h0:ElsE l [a,b]=0:=by simpa using hc
  obtain ⟨hC,hw⟩:=ElsE_zero h0
  obtain ⟨T,sok⟩:=CSE_ok ht hC
  obtain ⟨wa,ga⟩:=hw a (by simp)
  obtain ⟨wb,gb⟩:=hw b (by simp)
  have hj:deltaR l a b=(0,deltaE l.1 4 l.2 a b):=by unfold deltaR;rw [if_neg (by simpa using h0)]
  rw [hj]
  clear hc
  apply Wk.freeze (b:=b3)
  case p=>repeat (first|exact Rem.head|apply Rem.tail)
  intro Z2 e2 h3
  apply Wk.freeze (b:=b4)
  case p=>repeat (first|exact Rem.head|apply Rem.tail)
  intro Z3 e3 h4
  apply Wk.freeze (b:=b5)
  case p=>repeat (first|exact Rem.head|apply Rem.tail)
  intro Z4 e4 h5
  apply Wk.freeze (b:=b8)
  case p=>repeat (first|exact Rem.head|apply Rem.tail)
  intro Z5 e5 h8
  have e25:=((e2.trans e3).trans e4).trans e5
  have e15:=e1.trans e25
  replace h3:=e5 _ _ (e4 _ _ (e3 _ _ h3))
  replace h4:=e5 _ _ (e4 _ _ h4)
  replace h5:=e5 _ _ h5
  refine Ev.gT ?_
  refine Wk.call rfl rfl (Spl.none _) (pieces_e T 4 rfl (hL0.mono e25) (hS.mono e15) (hb0.mono e15) wb gb sok) rfl rfl rfl ?_
  rintro v26 Z6 A6 hz6 ⟨hY,rfl⟩
  refine Ev.gT ?_
  refine rangeY (l:=piecesE l.1 4 l.2 b) (fun done Z' A'=>Ext Z6 Z'∧∃ x1 x2 x3 x4 x5 x6,A'=[pt b6 (.cells [.int .u8 x1,.int .i64 x2,.slice x3 (dUp l.1 l.2 a done).keys.length x4,.slice x5 (dUp l.1 l.2 a done).kids.length x6] true 0)]∧ElR Z' (dUp l.1 l.2 a done) [.int .u8 x1,.int .i64 x2,.slice x3 (dUp l.1 l.2 a done).keys.length x4,.slice x5 (dUp l.1 l.2 a done).kids.length x6]) (fun _ _ _=>rfl) rfl hY rfl (by simp) (fun done Z' Z'' A' hz ⟨h1,x1,x2,x3,x4,x5,x6,h2,h3⟩=>⟨h1.trans hz,x1,x2,x3,x4,x5,x6,h2,h3.mono hz⟩) ⟨Ext.refl _,_,_,_,_,_,_,rfl,ElR_bot _⟩ ?_ ?_
  ·rintro done x rest Z7 A7 cs q hsplit hz7 ⟨hz67,x1,x2,x3,x4,x5,x6,rfl,hout⟩ hx
   have hx0:=hx
   obtain ⟨⟨wx,gx⟩,wo,gout⟩:=dUp_ok (a:=a) T.lat wb gb hsplit
   obtain ⟨w1,w2,w3,w4,uw,rfl,_,_,_⟩:=hx.form
   repeat first|refine go ?_|with_reducible intro _
   rename_i b9'
   refine Wk.done ⟨rfl,_,.tail .head,?_⟩
   apply Wk.freeze (b:=b9')
   case p=>repeat (first|exact Rem.head|apply Rem.tail)
   intro Z70 e70 h9'
   replace hz67:=hz67.trans e70
   replace hout:=hout.mono e70
   replace hx0:=hx0.mono e70
   have e7:=hz6.trans hz67
   have e57:=e15.trans e7
   have h3':=e7 _ _ h3
   have h4':=e7 _ _ h4
   have h8':=e7 _ _ h8
   refine Ev.gT ?_
   refine Wk.call rfl rfl (Spl.none _) (isBelow_e T 4 rfl (hL0.mono (e25.trans e7)) (hS.mono e57) hx0 (ha0.mono e57) wx wa gx ga sok) rfl rfl rfl ?_
   rintro v' Z' A' hz8 ⟨⟨r,rfl,hr⟩,rfl,rfl⟩
   refine Ev.gT ?_
   refine Wk.cond rfl (fun hc=>?_) (fun hc=>?_)
   ·have hnle:¬ LeE l.1 4 l.2 x a:=fun h=>by rw [hr.2 h] at hc;cases hc
    refine Ev.gT ?_
    refine Wk.call rfl rfl (Spl.none _) (join_e T 4 rfl (hL0.mono (e25.trans e7)) (hS.mono e57) hout hx0 wo wx gout gx sok) rfl rfl rfl ?_
    rintro v40 Z8 A8 hz9 ⟨cs',rfl,hR,rfl⟩
    rw [←dUp_no hnle] at hR
    obtain ⟨y1,y2,y3,y4,uy,rfl,_,_,_⟩:=hR.form
    refine Ev.gT ?_
    refine Wk.done ⟨rfl,_,.head,?_⟩
    exact ⟨hz67.trans hz9,_,_,_,_,_,_,rfl,hR⟩
   ·have hle:LeE l.1 4 l.2 x a:=hr.1 (by simpa using hc)
    refine Ev.gT ?_
    refine Wk.done ⟨rfl,_,.head,hz67,x1,x2,x3,x4,x5,x6,?_⟩
    rw [dUp_yes hle]
    exact ⟨rfl,hout⟩
  ·rintro Z7 A7 hz7 ⟨hz67,x1,x2,x3,x4,x5,x6,rfl,hout⟩
   rw [dUp_all] at hout
   refine Ev.gT ?_
   refine Wk.ret ⟨_,Rs.cell rfl rfl Ev.hM rfl rfl (Rs.tmp rfl Rs.nil),_,Sub.none _,_,rfl,hout,rfl⟩
end Go.Proofs.J
namespace Go.Proofs.J
open Go.Ev Go
theorem flatMap_len {α β:Type} {l:List α} {f:α→List β} {B:Nat} (h:∀ x∈l,(f x).length≤B):(l.flatMap f).length≤l.length*B:=by
 induction l with
 | nil=>simp
 | cons x l ih =>
  rw [List.flatMap_cons,List.length_append,List.length_cons,Nat.add_mul,Nat.one_mul]
  have h1:=h x (by simp)
  have h2:=ih fun y hy=>h y (by simp [hy])
  omega
theorem pieces_len {ts:List Tbl} (T:TsOk ts):∀ {d:Nat} {s:Shp} {e:El},IsW ts d s e→¬ e.Great→s.Ok→(piecesE ts d s e).length≤40 ^ d
 | 0,s,e,w,_,_=>absurd w (by simp [IsW])
 | d+1,s,e,w,g,so=>by
  have h1:1≤40 ^ d:=Nat.pow_pos Ev.wM
  have h2:40 ^ (d+1)=40 ^ d*40:=Nat.pow_succ ..
  have sg:=small_iff.1 g
  rcases el_kinds w with hk|⟨k,t,m,ht,hm1,hm2,rfl⟩|⟨k,ks,hks,rfl⟩|hk
  ·rw [pieces_flat hk];simp only [List.length_cons,List.length_nil];omega
  ·rw [pieces_4,ht.eq,List.length_map]
   have h12:t.elems.length≤12:=(T.ok _ ht.mem).2.2.1
   have:(t.parts ((m:Int)).toNat).length≤t.elems.length:=by unfold Tbl.parts;exact Nat.le_trans (List.length_filter_le ..) (by simp)
   omega
  ·rw [pieces_5,List.length_map]
   have:ks.length≤40:=sg.1
   omega
  ·rw [pieces_kids so w hk]
   have hkl:e.kids.length≤40:=(w.few g).2.1
   have:((List.range e.kids.length).flatMap (kidP ts d s e)).length≤(List.range e.kids.length).length*40 ^ d:=by
    refine flatMap_len fun j hj=>?_
    have hj:j < e.kids.length:=List.mem_range.1 hj
    obtain ⟨hsl,hkw,_⟩:=kids_kind so w hk hj
    have hmod:j % s.kids.length < s.kids.length:=Nat.mod_lt _ hsl
    have hkid:e.kids[j]=e.kd j:=by simp [El.kd,hj]
    have hskid:s.kids[j % s.kids.length]=s.kid (j % s.kids.length):=(Shp.kid_eq (List.getElem?_eq_getElem hmod)).symm
    rw [kidP,List.length_map]
    exact pieces_len T hkw (by rw [←hkid];exact sg.2 _ (List.getElem_mem hj)) (by rw [←hskid];exact so.kids_.2 _ (List.getElem_mem hmod))
   rw [List.length_range] at this
   have h3:e.kids.length*40 ^ d≤40*40 ^ d:=Nat.mul_le_mul_right _ hkl
   omega
theorem pieces_len6 {ts:List Tbl} (T:TsOk ts) {d:Nat} {s:Shp} {e:El} (hd:d≤6) (w:IsW ts d s e) (g:¬ e.Great) (so:s.Ok):(piecesE ts d s e).length≤4096000000 :=
 Nat.le_trans (pieces_len T w g so) (Nat.pow_le_pow_right Ev.wM hd)
def PiecesOfAt (ts:List Tbl) (d:Nat):Prop:=∀ {Z:Zone} {vt:Value} {sc ce:List Value} {s:Shp} {e:El},TbsR Z vt ts→ShR Z s sc→ElR Z e ce→IsW ts d s e→¬ e.Great→s.Ok →
 Cz M (.func (.func 78) #[] #[]) [vt,.agg ⟨sc⟩,.agg ⟨ce⟩] Z [] (fun v' Z' A'=>∃ us,ElRL Z' (piecesE ts d s e) us∧A'=[ol 4 v' (piecesE ts d s e).length us])
theorem piecesOf_succ {ts:List Tbl} (T:TsOk ts) {d:Nat} (hd:d+1≤6) (ih:PiecesOfAt ts d) {Z:Zone} {vt:Value} {sc ce:List Value} {s:Shp} {e:El} (hl:TbsR Z vt ts) (hs:ShR Z s sc) (he:ElR Z e ce) (w:IsW ts (d+1) s e) (g:¬ e.Great) (so:s.Ok) :
  Cz M (.func (.func 78) #[] #[]) [vt,.agg ⟨sc⟩,.agg ⟨ce⟩] Z [] (fun v' Z' A'=>∃ us,ElRL Z' (piecesE ts (d+1) s e) us∧A'=[ol 4 v' (piecesE ts (d+1) s e).length us]):=by
 have hl0:=hl
 have hs0:=hs
 have he0:=he
 have sg:=small_iff.1 g
 have fe:=w.fit T.ok g
 have hP:=pieces_len6 T hd w g so
 obtain ⟨l1,l2,rfl⟩:=hl.form
 obtain ⟨p1,p2,usk,rfl,hsk,hsL⟩:=hs.form
 obtain ⟨q1,q2,q3,q4,ue,rfl,ek,es,eL⟩:=he.form
 rcases el_kinds w with hk|⟨k,t,m,ht,hm1,hm2,rfl⟩|⟨k,ks,hks,rfl⟩|hk
 ·rw [pieces_flat hk]
  rcases hk with k|k|k <;>
  ·rw [k] at he0 ⊢
   refine Cz.fn (f:=Tryz.f78) Ev.cM rfl rfl rfl _ rfl ?_
   repeat first|refine go ?_|with_reducible intro _
   refine Wk.call rfl rfl (Spl.none _) (copyEl (d+1) fe he0) rfl rfl rfl ?_
   rintro v' Z2 A' hz ⟨cs',rfl,hR,rfl⟩
   have hR0:=hR
   obtain ⟨w1,w2,w3,w4,uw,rfl,_,_,_⟩:=hR.form
   repeat first|refine go ?_|with_reducible intro _
   refine Wk.bs (cs:=[.int .u8 e.kind,.int .i64 e.n,.slice w1 e.keys.length w2,.slice w3 e.kids.length w4]) rfl rfl rfl rfl rfl rfl rfl fun b50=>?_
   refine Wk.olNilr 4 ?_
   refine Wk.append (kk:=1) (new:=[.int .u8 e.kind,.int .i64 e.n,.slice w1 e.keys.length w2,.slice w3 e.kids.length w4]) rfl rfl rfl rfl rfl rfl rfl rfl Ev.rM (Src.lit Ev.hM rfl) rfl rfl rfl Ev.wM Ev.wM rfl rfl rfl fun v51=>?_
   repeat first|refine go ?_|with_reducible intro _
   refine Wk.ret ⟨_,Rs.tmp rfl Rs.nil,_,.keep (Sub.none _),_,ElRL.snoc hR0 (l:=[]) (us:=[]) (by simp [ElRL]),rfl⟩
 ·-- named
  rw [pieces_4,ht.eq] at hP ⊢
  have e9:((m:Int)).toNat=m:=rfl
  rw [e9] at hP ⊢
  rw [List.length_map] at hP
  obtain ⟨i,hi,hti,hnm0,hfirst0⟩:=ht
  refine Cz.fn (f:=Tryz.f78) Ev.cM rfl rfl rfl _ rfl ?_
  repeat first|refine go ?_|with_reducible intro _
  refine Wk.drawr (ms:=[0,0,0,4,14,31,63,0,128,511,1023]) (l:=[0,1,2,3,7,8,4,5,6,9,10]) Ev.cM Ev.cM Ev.cM rfl ?_
  repeat first|refine go ?_|with_reducible intro _
  refine Wk.callD rfl rfl (Spl.none _) (rNumber s.name hl0 T.len) rfl rfl fun v52 Z9 A' hz9 hq=>?_
  obtain ⟨⟨r,rfl,hr⟩,rfl,rfl⟩:=hq
  refine ⟨?_,?_⟩
  ·exact Ev.pM2
  rcases hr with ⟨i2,hi2,rfl,hnm,hfirst⟩|⟨rfl,hno⟩
  ·have ht2:Tof ts s.name ts[i2]:=⟨i2,hi2,rfl,hnm,hfirst⟩
   have ht:Tof ts s.name t:=⟨i,hi,hti,hnm0,hfirst0⟩
   obtain ⟨ust,hst,hrow⟩:=hl0
   obtain ⟨nm,x1,m1,y1,x2,m2,y2,x3,m3,y3,gt,htb⟩:=hrow i2 hi2
   rw [ht2.uniq ht] at htb
   repeat first|refine go ?_|with_reducible intro _
   refine Wk.call rfl rfl (Spl.none _) (rParts htb (T.sm _ ht.mem) (T.ok _ ht.mem) (T.lat _ ht.mem) rfl ⟨_,_,_,_,_,_,_,_,_,rfl,rfl,rfl⟩ m hm2) Ev.cM rfl rfl ?_
   rintro v40 Z2 A' hz rfl
   first|apply Wk.olFreezer (v:=v40)|apply Wk.olFreeze (v:=v40)
   case p=>repeat (first|exact Rem.head|apply Rem.tail)
   intro Z3 e3 s3
   obtain ⟨q5,c5,rfl⟩:=s3.form
   refine Wk.dropr (B:=[]) (Sub.none _) ?_
   repeat first|refine go ?_|with_reducible intro _
   refine Wk.olNil 4 ?_
   refine Wk.loop (fun w L Z' A'=>∃ (i:Nat) (v7:Value) (us:List Value),i≤(t.parts m).length∧w=(t.parts m).length - i∧Z3=Z'∧Sub A' [ol 4 v7 i us]∧ElRL Z3 (((t.parts m).take i).map fun p:Nat=>El.mk 4 (p:Nat) [] []) us∧Kp L [(7,v7),(8,.slice q5 (t.parts m).length c5),(9,.int .i64 i)]) (t.parts m).length ⟨0,_,[],Nat.zero_le _,rfl,rfl,Sub.refl _,by simp [ElRL],Ev.kM⟩ ?_
   rintro w L Z4 A4 - ⟨i,v7,us,hi,rfl,rfl,hsub,hus,hkp⟩
   refine Wk.drop hsub ?_
   refine Wk.kp hkp ?_
   clear hkp hsub
   repeat first|refine go ?_|with_reducible intro _
   refine Wk.cond rfl (fun hc=>?_) (fun hc=>?_)
   ·have hlt:i < (t.parts m).length:=by simp at hc;omega
    clear hc
    have hgi:getCells (nats (t.parts m)) (i*1) 1=some [.int .i64 ((t.parts m)[i]:Nat)]:=getCells_one (by rw [Nat.mul_one];exact nats_get hlt)
    refine Wk.know Ev.rM (fun s h=>ol.form (v:=v7) h) ?_
    rintro ⟨q7,c7,rfl⟩
    repeat first|refine go ?_|with_reducible intro _
    refine Wk.bs (cs:=[.int .u8 4,.int .i64 ((t.parts m)[i]:Nat),.slice none 0 0,.slice none 0 0]) rfl rfl rfl rfl rfl rfl rfl fun b50=>?_
    refine Wk.append (kk:=1) (new:=[.int .u8 4,.int .i64 ((t.parts m)[i]:Nat),.slice none 0 0,.slice none 0 0]) rfl rfl rfl rfl rfl rfl rfl rfl Ev.rM (Src.lit Ev.hM rfl) rfl rfl rfl Ev.wM Ev.wM rfl rfl rfl fun v51=>?_
    refine Wk.dropr (.keep (.drop (Sub.refl _))) ?_
    repeat first|refine go ?_|with_reducible intro _
    refine Wk.inv ⟨_,by omega,i+1,_,_,hlt,rfl,rfl,Sub.refl _,?_,Ev.kM⟩
    rw [List.take_succ_eq_append_getElem hlt,List.map_append]
    exact ElRL.snoc (ElR_flat _ 4 ((t.parts m)[i]:Nat)) hus
   ·have hin:i=(t.parts m).length:=by simp at hc;omega
    subst hin
    rw [List.take_length] at hus
    repeat first|refine go ?_|with_reducible intro _
    refine Wk.ret ⟨_,Rs.tmp rfl Rs.nil,_,Sub.refl _,_,hus,by rw [List.length_map];rfl⟩
  ·exfalso
   exact hno t (by rw [←hti];exact List.getElem_mem hi) hnm0
 ·-- sets
  rw [pieces_5] at hP ⊢
  rw [List.length_map] at hP
  refine Cz.fn (f:=Tryz.f78) Ev.cM rfl rfl rfl _ rfl ?_
  repeat first|refine go ?_|with_reducible intro _
  rename_i b4 b5
  apply Wk.freeze (b:=b5)
  case p=>repeat (first|exact Rem.head|apply Rem.tail)
  intro Z2 e2 h5
  refine Wk.drop (B:=[]) (Sub.none _) ?_
  refine Wk.olNil 4 ?_
  refine Wk.loop (fun w L Z' A'=>∃ (i:Nat) (v7:Value) (us:List Value),i≤ks.length∧w=ks.length - i∧Ext Z2 Z'∧Sub A' [ol 4 v7 i us]∧ElRL Z' ((ks.take i).map fun k=>El.mk 5 0 [k] []) us∧Kp L [(5,.pointer (some ⟨b5,0,none⟩)),(7,v7),(10,.int .i64 i)]) ks.length ⟨0,_,[],Nat.zero_le _,rfl,Ext.refl _,Sub.refl _,by simp [ElRL],Ev.kM⟩ ?_
  rintro w L Z4 A4 - ⟨i,v7,us,hi,rfl,e4,hsub,hus,hkp⟩
  refine Wk.drop hsub ?_
  refine Wk.kp hkp ?_
  clear hkp hsub
  have h5':=e4 _ _ h5
  have s4:Sl Z4 1 (.slice q1 ks.length q2) ks.length (nums ks):=ek.mono (e2.trans e4)
  repeat first|refine go ?_|with_reducible intro _
  refine Wk.cond rfl (fun hc=>?_) (fun hc=>?_)
  ·have hlt:i < ks.length:=by simp at hc;exact hc
   clear hc
   refine Wk.know Ev.rM (fun s h=>ol.form (v:=v7) h) ?_
   rintro ⟨q7,c7,rfl⟩
   repeat first|refine go ?_|with_reducible intro _
   refine Wk.bs (cs:=[.int .i64 ks[i]]) rfl rfl rfl rfl rfl rfl rfl fun b70=>?_
   apply Wk.freezer (b:=b70)
   case p=>repeat (first|exact Rem.head|apply Rem.tail)
   intro Z5 e5 h70
   repeat first|refine go ?_|with_reducible intro _
   refine Wk.bs (cs:=[.int .u8 5,.int .i64 0,.slice (some ⟨b70,0,none⟩) 1 1,.slice none 0 0]) rfl rfl rfl rfl rfl rfl rfl fun b50=>?_
   refine Wk.append (kk:=1) (new:=[.int .u8 5,.int .i64 0,.slice (some ⟨b70,0,none⟩) 1 1,.slice none 0 0]) rfl rfl rfl rfl rfl rfl rfl rfl Ev.rM (Src.lit Ev.hM rfl) rfl rfl rfl Ev.wM Ev.wM rfl rfl rfl fun v51=>?_
   refine Wk.dropr (.keep (.drop (Sub.refl _))) ?_
   repeat first|refine go ?_|with_reducible intro _
   refine Wk.inv ⟨_,by omega,i+1,_,_,hlt,rfl,e4.trans e5,Sub.refl _,?_,Ev.kM⟩
   rw [List.take_succ_eq_append_getElem hlt,List.map_append]
   exact ElRL.snoc (ElR.of (s:=.mk 5 0 [ks[i]] []) (.inr ⟨b70,0,1,_,_,_,rfl,Nat.le_refl _,h70,rfl,.inl rfl⟩) (.inl ⟨rfl,rfl,rfl⟩) (by simp [ElRL,El.kids])) (hus.mono e5)
  ·have hin:i=ks.length:=by
    have h9:¬ i < ks.length:=fun h=>by
     have:decide ((i:Int) < (ks.length:Int))=true:=by simpa using h
     exact absurd (this.symm.trans hc) (by decide)
    omega
   subst hin
   rw [List.take_length] at hus
   repeat first|refine go ?_|with_reducible intro _
   refine Wk.ret ⟨_,Rs.tmp rfl Rs.nil,_,Sub.refl _,_,hus,by rw [List.length_map];rfl⟩
 ·by_cases nb:e=El.bot
  ·subst nb
   rw [pieces_0]
   refine Cz.fn (f:=Tryz.f78) Ev.cM rfl rfl rfl _ rfl ?_
   repeat first|refine go ?_|with_reducible intro _
   refine Wk.olNil 4 ?_
   refine Wk.ret ⟨_,Rs.tmp rfl Rs.nil,_,.keep (Sub.none _),[],by simp [ElRL],rfl⟩
  have hpk:=pieces_kids so w hk
  rw [hpk] at hP ⊢
  have hkk:=fun (j:Nat) (hj:j < e.kids.length)=>kids_kind so w hk hj
  have key:∀ (j:Nat) (hj:j < e.kids.length),∃ after,(List.range e.kids.length).flatMap (kidP ts d s e)=(List.range j).flatMap (kidP ts d s e)++((piecesE ts d (s.kid (j % s.kids.length)) (e.kd j)).map (wrK e j)++after):=fun j hj=>flatMap_range (kidP ts d s e) hj
  have h67:e.kind=6∧e.n=0∧e.keys.length=e.kids.length∧s.kids.length=1∨e.kind=7∧e.n=0∧e.keys.length=0∧e.kids.length=2∧s.kids.length=2:=by
   have hsok:=so.kids_.1
   rcases w.kinds nb with k|k|k|k|k|k|k
   ·rw [w.inv1 nb k] at hk;exact absurd rfl hk.1
   ·obtain ⟨m,hm,rfl⟩:=w.inv2 nb k;exact absurd rfl hk.2.1
   ·rcases w.inv4 nb k with ⟨m,hm,rfl⟩|rfl
    ·exact absurd rfl hk.2.1
    ·exact absurd rfl hk.2.2.1
   ·obtain ⟨t,m,ht,h1,h2,rfl⟩:=w.inv5 nb k;exact absurd rfl hk.2.2.2.1
   ·obtain ⟨ks,hk2,rfl⟩:=w.inv3 nb k;exact absurd rfl hk.2.2.2.2
   ·obtain ⟨k0,ks,l,e0,hks,hl,hx,rfl⟩:=w.inv6 nb k
    rw [k] at hsok
    exact .inl ⟨rfl,rfl,hl.symm,by simpa [kidsOf] using hsok.symm⟩
   ·obtain ⟨k0,k1,x,y,e0,e1,hx,hy,hn,rfl⟩:=w.inv7 nb k
    rw [k] at hsok
    exact .inr ⟨rfl,rfl,rfl,rfl,by simpa [kidsOf] using hsok.symm⟩
  rcases h67 with ⟨k6,kn,hkl,hsl⟩|⟨k7,kn,hkl,he2,hsl⟩
  ·rw [k6] at he0 ⊢
   refine Cz.fn (f:=Tryz.f78) Ev.cM rfl rfl rfl _ rfl ?_
   repeat first|refine go ?_|with_reducible intro _
   rename_i b4 b5
   apply Wk.freeze (b:=b5)
   case p=>repeat (first|exact Rem.head|apply Rem.tail)
   intro Z2 e2 h5
   apply Wk.freeze (b:=b4)
   case p=>repeat (first|exact Rem.head|apply Rem.tail)
   intro Z3 e3 h4
   replace h5:=e3 _ _ h5
   have e23:=e2.trans e3
   refine Wk.olNil 4 ?_
   refine Wk.loop (fun w L Z' A'=>∃ (j:Nat) (v7:Value) (us:List Value),j≤e.kids.length∧w=e.kids.length - j∧Ext Z3 Z'∧Sub A' [ol 4 v7 ((List.range j).flatMap (kidP ts d s e)).length us]∧ElRL Z' ((List.range j).flatMap (kidP ts d s e)) us∧Kp L [(0,.slice l1 ts.length l2),(4,.pointer (some ⟨b4,0,none⟩)),(5,.pointer (some ⟨b5,0,none⟩)),(7,v7),(11,.int .i64 j)]) e.kids.length ⟨0,_,[],Nat.zero_le _,rfl,Ext.refl _,Sub.refl _,by simp [ElRL],Ev.kM⟩ ?_
   rintro w' L Z4 A4 - ⟨j,v7,us,hj,rfl,e4,hsub,hus,hkp⟩
   refine Wk.drop hsub ?_
   refine Wk.kp hkp ?_
   clear hkp hsub
   have h5':=e4 _ _ h5
   have h4':=e4 _ _ h4
   have e24:=e23.trans e4
   have es4:=es.mono e24
   have ek4:=ek.mono e24
   have hsk4:=hsk.mono e24
   repeat first|refine go ?_|with_reducible intro _
   refine Wk.cond rfl (fun hc=>?_) (fun hc=>?_)
   ·have hlt:j < e.kids.length:=by simp at hc;omega
    clear hc
    have hjk:j < e.keys.length:=by omega
    obtain ⟨hsl0,hkw,_⟩:=hkk j hlt
    have hmod:j % s.kids.length=0:=by rw [hsl,Nat.mod_one]
    have h0s:0 < s.kids.length:=hsl0
    obtain ⟨after,hafter⟩:=key j hlt
    rw [hmod] at hkw hafter
    obtain ⟨k',n',x1,m1,y1,x2,m2,y2,gx,rrx⟩:=eL.get j hlt
    obtain ⟨ks',ns',a0,m0,c0,gs0,rs0⟩:=hsL.get 0 h0s
    have hkid:e.kids[j]=e.kd j:=by simp [El.kd,hlt]
    have hskid:s.kids[0]=s.kid 0:=(Shp.kid_eq (List.getElem?_eq_getElem h0s)).symm
    have gk:¬ (e.kd j).Great:=by rw [←hkid];exact sg.2 _ (List.getElem_mem hlt)
    have sok:(s.kid 0).Ok:=by rw [←hskid];exact so.kids_.2 _ (List.getElem_mem h0s)
    rw [hkid] at rrx
    rw [hskid] at rs0
    repeat first|refine go ?_|with_reducible intro _
    refine Wk.drawr (ms:=[0,0,2,6,14,0,32,0,224,480,1023,2047]) (l:=[0,1,2,3,4,5,6,7,8,9,10,11]) Ev.cM Ev.cM Ev.cM rfl ?_
    repeat first|refine go ?_|with_reducible intro _
    refine Wk.call rfl rfl (Spl.none _) (ih (hl0.mono e24) (rs0.mono e24) (rrx.mono e24) hkw gk sok) Ev.cM rfl rfl ?_
    rintro v12 Z5 A5 hz5 ⟨up,hup,rfl⟩
    first|apply Wk.olFreezer (v:=v12)|apply Wk.olFreeze (v:=v12)
    case p=>repeat (first|exact Rem.head|apply Rem.tail)
    intro Z6 e6 s6
    obtain ⟨q12,c12,rfl⟩:=s6.form
    have e56:=hz5.trans e6
    replace hup:=hup.mono e6
    have hlen:((List.range j).flatMap (kidP ts d s e)).length+(piecesE ts d (s.kid 0) (e.kd j)).length≤4096000000:=by
     have:=congrArg List.length hafter
     simp only [List.length_append,List.length_map] at this
     omega
    repeat first|refine go ?_|with_reducible intro _
    refine Wk.loop (fun w L Z' A'=>∃ (i:Nat) (v7:Value) (us:List Value),i≤(piecesE ts d (s.kid 0) (e.kd j)).length∧w=(piecesE ts d (s.kid 0) (e.kd j)).length - i∧Ext Z6 Z'∧Sub A' [ol 4 v7 (((List.range j).flatMap (kidP ts d s e)).length+i) us]∧ElRL Z' ((List.range j).flatMap (kidP ts d s e)++((piecesE ts d (s.kid 0) (e.kd j)).take i).map (wrK e j)) us∧Kp L [(0,.slice l1 ts.length l2),(4,.pointer (some ⟨b4,0,none⟩)),(5,.pointer (some ⟨b5,0,none⟩)),(7,v7),(11,.int .i64 j),(12,.slice q12 (piecesE ts d (s.kid 0) (e.kd j)).length c12),(13,.int .i64 i)]) (piecesE ts d (s.kid 0) (e.kd j)).length ⟨0,_,us,Nat.zero_le _,rfl,Ext.refl _,Sub.refl _,by simpa using hus.mono e56,Ev.kM⟩ ?_
    clear hus us
    rintro w' L Z7 A7 - ⟨i,v7,us,hi,rfl,e7,hsub,hus,hkp⟩
    refine Wk.drop hsub ?_
    refine Wk.kp hkp ?_
    clear hkp hsub
    have h5'':=e7 _ _ (e56 _ _ h5')
    have ek7:=ek4.mono (e56.trans e7)
    have s7:=s6.mono e7
    repeat first|refine go ?_|with_reducible intro _
    refine Wk.cond rfl (fun hc=>?_) (fun hc=>?_)
    ·have hit:i < (piecesE ts d (s.kid 0) (e.kd j)).length:=by simp at hc;omega
     clear hc
     obtain ⟨kp,np,xp1,mp1,yp1,xp2,mp2,yp2,gp,rp⟩:=hup.get i hit
     have rp7:=rp.mono e7
     obtain ⟨w1,w2,w3,w4,uw,ew,_,_,_⟩:=rp.form
     cases ew
     refine Wk.know Ev.rM (fun s h=>ol.form (v:=v7) h) ?_
     rintro ⟨q7,c7,rfl⟩
     repeat first|refine go ?_|with_reducible intro _
     refine Wk.drawr (ms:=[0,0,2,0,14,30,62,0,0,384,896,1920,4094,8190,16383,32767]) (l:=[0,1,2,3,4,5,6,7,8,9,10,11,12,13,14,15]) Ev.cM Ev.cM Ev.cM rfl ?_
     repeat first|refine go ?_|with_reducible intro _
     refine Wk.bs (cs:=[.int .i64 e.keys[j]]) rfl rfl rfl rfl rfl rfl rfl fun b106=>?_
     apply Wk.freezer (b:=b106)
     case p=>repeat (first|exact Rem.head|apply Rem.tail)
     intro Z8 e8 h106
     have s8:=s7.mono e8
     repeat first|refine go ?_|with_reducible intro _
     refine Wk.bs (cs:=[.int .u8 _,.int .i64 _,.slice xp1 _ yp1,.slice xp2 _ yp2]) rfl rfl rfl rfl rfl rfl rfl fun b111=>?_
     apply Wk.freezer (b:=b111)
     case p=>repeat (first|exact Rem.head|apply Rem.tail)
     intro Z9 e9 h111
     replace h106:=e9 _ _ h106
     have e79:=e8.trans e9
     have hone:ElR Z9 (wrK e j (piecesE ts d (s.kid 0) (e.kd j))[i]) [.int .u8 6,.int .i64 0,.slice (some ⟨b106,0,none⟩) 1 1,.slice (some ⟨b111,0,none⟩) 1 1]:=by
      have hw:wrK e j (piecesE ts d (s.kid 0) (e.kd j))[i]=.mk 6 0 [e.keys[j]] [(piecesE ts d (s.kid 0) (e.kd j))[i]]:=by simp [wrK,k6,hjk]
      rw [hw]
      exact ElR.of (s:=.mk 6 0 [e.keys[j]] [(piecesE ts d (s.kid 0) (e.kd j))[i]]) (.inr ⟨b106,0,1,_,_,_,rfl,Nat.le_refl _,h106,rfl,.inl rfl⟩) (.inr ⟨b111,0,1,_,_,_,rfl,Nat.le_refl _,h111,rfl,.inl rfl⟩) (ElRL.snoc (rp7.mono e79) (l:=[]) (us:=[]) (by simp [ElRL]))
     repeat first|refine go ?_|with_reducible intro _
     refine Wk.bs (cs:=[.int .u8 6,.int .i64 0,.slice (some ⟨b106,0,none⟩) 1 1,.slice (some ⟨b111,0,none⟩) 1 1]) rfl rfl rfl rfl rfl rfl rfl fun b50=>?_
     refine Wk.appendD (kk:=1) (new:=[.int .u8 6,.int .i64 0,.slice (some ⟨b106,0,none⟩) 1 1,.slice (some ⟨b111,0,none⟩) 1 1]) rfl rfl rfl rfl rfl rfl rfl rfl Ev.rM (Src.lit Ev.hM rfl) rfl rfl rfl Ev.wM Ev.wM rfl rfl fun v51=>⟨?_,?_⟩
     ·exact Ev.pM2
     refine Wk.dropr (.keep (.drop (Sub.refl _))) ?_
     repeat first|refine go ?_|with_reducible intro _
     refine Wk.inv ⟨_,by omega,i+1,_,_,hit,rfl,e7.trans e79,Sub.refl _,?_,Ev.kM⟩
     rw [List.take_succ_eq_append_getElem hit,List.map_append,←List.append_assoc]
     exact ElRL.snoc hone (hus.mono e79)
    ·have hin:i=(piecesE ts d (s.kid 0) (e.kd j)).length:=by simp at hc;omega
     have hfin:(List.range (j+1)).flatMap (kidP ts d s e)=(List.range j).flatMap (kidP ts d s e)++(piecesE ts d (s.kid 0) (e.kd j)).map (wrK e j):=by
      rw [List.range_succ,List.flatMap_append];simp [kidP,hmod]
     rw [hin,List.take_length,←hfin] at hus
     have hfl:((List.range j).flatMap (kidP ts d s e)).length+i=((List.range (j+1)).flatMap (kidP ts d s e)).length:=by rw [hfin,List.length_append,List.length_map,hin]
     rw [hfl]
     repeat first|refine go ?_|with_reducible intro _
     refine Wk.inv ⟨_,by omega,j+1,v7,_,hlt,rfl,e4.trans (e56.trans e7),Sub.refl _,hus,Ev.kM⟩
   ·have hjn:j=e.kids.length:=by simp at hc;omega
    subst hjn
    repeat first|refine go ?_|with_reducible intro _
    refine Wk.ret ⟨_,Rs.tmp rfl Rs.nil,_,Sub.refl _,_,hus,rfl⟩
  ·rw [k7] at he0 ⊢
   refine Cz.fn (f:=Tryz.f78) Ev.cM rfl rfl rfl _ rfl ?_
   repeat first|refine go ?_|with_reducible intro _
   rename_i b4 b5
   apply Wk.freeze (b:=b5)
   case p=>repeat (first|exact Rem.head|apply Rem.tail)
   intro Z2 e2 h5
   apply Wk.freeze (b:=b4)
   case p=>repeat (first|exact Rem.head|apply Rem.tail)
   intro Z3 e3 h4
   replace h5:=e3 _ _ h5
   have e23:=e2.trans e3
   refine Wk.olNil 4 ?_
   refine Wk.loop (fun w L Z' A'=>∃ (j:Nat) (v7:Value) (us:List Value),j≤e.kids.length∧w=e.kids.length - j∧Ext Z3 Z'∧Sub A' [ol 4 v7 ((List.range j).flatMap (kidP ts d s e)).length us]∧ElRL Z' ((List.range j).flatMap (kidP ts d s e)) us∧Kp L [(0,.slice l1 ts.length l2),(4,.pointer (some ⟨b4,0,none⟩)),(5,.pointer (some ⟨b5,0,none⟩)),(7,v7),(14,.int .i64 j)]) e.kids.length ⟨0,_,[],Nat.zero_le _,rfl,Ext.refl _,Sub.refl _,by simp [ElRL],Ev.kM⟩ ?_
   rintro w' L Z4 A4 - ⟨j,v7,us,hj,rfl,e4,hsub,hus,hkp⟩
   refine Wk.drop hsub ?_
   refine Wk.kp hkp ?_
   clear hkp hsub
   have h5':=e4 _ _ h5
   have h4':=e4 _ _ h4
   have e24:=e23.trans e4
   have es4:=es.mono e24
   have ek4:=ek.mono e24
   have hsk4:=hsk.mono e24
   repeat first|refine go ?_|with_reducible intro _
   refine Wk.cond rfl (fun hc=>?_) (fun hc=>?_)
   ·have hlt:j < e.kids.length:=by simp at hc;omega
    clear hc
    obtain ⟨hsl0,hkw,_⟩:=hkk j hlt
    have hmod:j % s.kids.length=j:=Nat.mod_eq_of_lt Ev.wM
    have h0s:j < s.kids.length:=by omega
    obtain ⟨after,hafter⟩:=key j hlt
    rw [hmod] at hkw hafter
    obtain ⟨k',n',x1,m1,y1,x2,m2,y2,gx,rrx⟩:=eL.get j hlt
    obtain ⟨ks',ns',a0,m0,c0,gs0,rs0⟩:=hsL.get j h0s
    have hkid:e.kids[j]=e.kd j:=by simp [El.kd,hlt]
    have hskid:s.kids[j]=s.kid j:=(Shp.kid_eq (List.getElem?_eq_getElem h0s)).symm
    have gk:¬ (e.kd j).Great:=by rw [←hkid];exact sg.2 _ (List.getElem_mem hlt)
    have sok:(s.kid j).Ok:=by rw [←hskid];exact so.kids_.2 _ (List.getElem_mem h0s)
    rw [hkid] at rrx
    rw [hskid] at rs0
    repeat first|refine go ?_|with_reducible intro _
    refine Wk.drawr (ms:=[0,0,2,0,14,30,0,64,0,448,960,2047,4095]) (l:=[0,1,2,3,4,5,6,7,8,9,10,11,12]) Ev.cM Ev.cM Ev.cM rfl ?_
    repeat first|refine go ?_|with_reducible intro _
    refine Wk.call rfl rfl (Spl.none _) (ih (hl0.mono e24) (rs0.mono e24) (rrx.mono e24) hkw gk sok) Ev.cM rfl rfl ?_
    rintro v12 Z5 A5 hz5 ⟨up,hup,rfl⟩
    first|apply Wk.olFreezer (v:=v12)|apply Wk.olFreeze (v:=v12)
    case p=>repeat (first|exact Rem.head|apply Rem.tail)
    intro Z6 e6 s6
    obtain ⟨q12,c12,rfl⟩:=s6.form
    have e56:=hz5.trans e6
    replace hup:=hup.mono e6
    have hlen:((List.range j).flatMap (kidP ts d s e)).length+(piecesE ts d (s.kid j) (e.kd j)).length≤4096000000:=by
     have:=congrArg List.length hafter
     simp only [List.length_append,List.length_map] at this
     omega
    repeat first|refine go ?_|with_reducible intro _
    refine Wk.loop (fun w L Z' A'=>∃ (i:Nat) (v7:Value) (us:List Value),i≤(piecesE ts d (s.kid j) (e.kd j)).length∧w=(piecesE ts d (s.kid j) (e.kd j)).length - i∧Ext Z6 Z'∧Sub A' [ol 4 v7 (((List.range j).flatMap (kidP ts d s e)).length+i) us]∧ElRL Z' ((List.range j).flatMap (kidP ts d s e)++((piecesE ts d (s.kid j) (e.kd j)).take i).map (wrK e j)) us∧Kp L [(0,.slice l1 ts.length l2),(4,.pointer (some ⟨b4,0,none⟩)),(5,.pointer (some ⟨b5,0,none⟩)),(7,v7),(14,.int .i64 j),(15,.slice q12 (piecesE ts d (s.kid j) (e.kd j)).length c12),(16,.int .i64 i)]) (piecesE ts d (s.kid j) (e.kd j)).length ⟨0,_,us,Nat.zero_le _,rfl,Ext.refl _,Sub.refl _,by simpa using hus.mono e56,Ev.kM⟩ ?_
    clear hus us
    rintro w' L Z7 A7 - ⟨i,v7,us,hi,rfl,e7,hsub,hus,hkp⟩
    refine Wk.drop hsub ?_
    refine Wk.kp hkp ?_
    clear hkp hsub
    have h5'':=e7 _ _ (e56 _ _ h5')
    have ek7:=ek4.mono (e56.trans e7)
    have s7:=s6.mono e7
    repeat first|refine go ?_|with_reducible intro _
    refine Wk.cond rfl (fun hc=>?_) (fun hc=>?_)
    ·have hit:i < (piecesE ts d (s.kid j) (e.kd j)).length:=by simp at hc;omega
     clear hc
     obtain ⟨kp,np,xp1,mp1,yp1,xp2,mp2,yp2,gp,rp⟩:=hup.get i hit
     have rp7:=rp.mono e7
     obtain ⟨w1,w2,w3,w4,uw,ew,_,_,_⟩:=rp.form
     cases ew
     refine Wk.know Ev.rM (fun s h=>ol.form (v:=v7) h) ?_
     rintro ⟨q7,c7,rfl⟩
     repeat first|refine go ?_|with_reducible intro _
     refine Wk.mks 2 2 rfl rfl rfl rfl rfl rfl rfl rfl (Nat.le_refl _) (by decide) (by decide) fun b39=>?_
     repeat first|refine go ?_|with_reducible intro _
     rename_i b17
     rcases (by omega:j=0∨j=1) with rfl|rfl
     ·refine Wk.drawr (ms:=[0,1,0,0,0,24,56,127,255]) (l:=[0,1,2,3,4,5,6,7,8]) Ev.cM Ev.cM Ev.cM rfl ?_
      repeat first|refine go ?_|with_reducible intro _
      refine Wk.iaV 0 rfl rfl rfl rfl rfl rfl rfl Ev.wM ?_
      refine Wk.store rfl rfl rfl rfl rfl Ev.uM rfl Ev.cM rfl ?_
      apply Wk.freezer (b:=b39)
      case p=>repeat (first|exact Rem.head|apply Rem.tail)
      intro Z8 e8 h39
      apply Wk.freezer (b:=b17)
      case p=>repeat (first|exact Rem.head|apply Rem.tail)
      intro Z9 e9 h17
      replace h39:=e9 _ _ h39
      have e79:=e8.trans e9
      have hone:ElR Z9 (wrK e 0 (piecesE ts d (s.kid 0) (e.kd 0))[i]) [.int .u8 7,.int .i64 0,.slice none 0 0,.slice (some ⟨b39,0,none⟩) 2 2]:=by
       have hw:wrK e 0 (piecesE ts d (s.kid 0) (e.kd 0))[i]=.mk 7 0 [] [(piecesE ts d (s.kid 0) (e.kd 0))[i],El.bot]:=by simp [wrK,k7]
       rw [hw]
       exact ElR.of (s:=.mk 7 0 [] [(piecesE ts d (s.kid 0) (e.kd 0))[i],El.bot]) (.inl ⟨rfl,rfl,rfl⟩) (.inr ⟨b39,0,2,_,_,_,rfl,Nat.le_refl _,h39,rfl,.inl rfl⟩) (ElRL.snoc (ElR_bot _) (ElRL.snoc (rp7.mono e79) (l:=[]) (us:=[]) (by simp [ElRL])))
      repeat first|refine go ?_|with_reducible intro _
      refine Wk.bs (cs:=[.int .u8 7,.int .i64 0,.slice none 0 0,.slice (some ⟨b39,0,none⟩) 2 2]) rfl rfl rfl rfl rfl rfl rfl fun b50=>?_
      refine Wk.append (kk:=1) (new:=[.int .u8 7,.int .i64 0,.slice none 0 0,.slice (some ⟨b39,0,none⟩) 2 2]) rfl rfl rfl rfl rfl rfl rfl rfl Ev.rM (Src.lit Ev.hM rfl) rfl rfl rfl Ev.wM Ev.wM rfl rfl rfl fun v51=>?_
      refine Wk.dropr (.keep (.drop (Sub.refl _))) ?_
      repeat first|refine go ?_|with_reducible intro _
      refine Wk.inv ⟨_,by omega,i+1,_,_,hit,rfl,e7.trans e79,Sub.refl _,?_,Ev.kM⟩
      rw [List.take_succ_eq_append_getElem hit,List.map_append,←List.append_assoc]
      exact ElRL.snoc hone (hus.mono e79)
     ·refine Wk.drawr (ms:=[0,1,0,0,0,24,56,127,255]) (l:=[0,1,2,3,4,5,6,7,8]) Ev.cM Ev.cM Ev.cM rfl ?_
      repeat first|refine go ?_|with_reducible intro _
      refine Wk.iaV 1 rfl rfl rfl rfl rfl rfl rfl Ev.wM ?_
      refine Wk.store rfl rfl rfl rfl rfl Ev.uM rfl Ev.cM rfl ?_
      apply Wk.freezer (b:=b39)
      case p=>repeat (first|exact Rem.head|apply Rem.tail)
      intro Z8 e8 h39
      apply Wk.freezer (b:=b17)
      case p=>repeat (first|exact Rem.head|apply Rem.tail)
      intro Z9 e9 h17
      replace h39:=e9 _ _ h39
      have e79:=e8.trans e9
      have hone:ElR Z9 (wrK e 1 (piecesE ts d (s.kid 1) (e.kd 1))[i]) [.int .u8 7,.int .i64 0,.slice none 0 0,.slice (some ⟨b39,0,none⟩) 2 2]:=by
       have hw:wrK e 1 (piecesE ts d (s.kid 1) (e.kd 1))[i]=.mk 7 0 [] [El.bot,(piecesE ts d (s.kid 1) (e.kd 1))[i]]:=by simp [wrK,k7]
       rw [hw]
       exact ElR.of (s:=.mk 7 0 [] [El.bot,(piecesE ts d (s.kid 1) (e.kd 1))[i]]) (.inl ⟨rfl,rfl,rfl⟩) (.inr ⟨b39,0,2,_,_,_,rfl,Nat.le_refl _,h39,rfl,.inl rfl⟩) (ElRL.snoc (rp7.mono e79) (ElRL.snoc (ElR_bot _) (l:=[]) (us:=[]) (by simp [ElRL])))
      repeat first|refine go ?_|with_reducible intro _
      refine Wk.bs (cs:=[.int .u8 7,.int .i64 0,.slice none 0 0,.slice (some ⟨b39,0,none⟩) 2 2]) rfl rfl rfl rfl rfl rfl rfl fun b50=>?_
      refine Wk.append (kk:=1) (new:=[.int .u8 7,.int .i64 0,.slice none 0 0,.slice (some ⟨b39,0,none⟩) 2 2]) rfl rfl rfl rfl rfl rfl rfl rfl Ev.rM (Src.lit Ev.hM rfl) rfl rfl rfl Ev.wM Ev.wM rfl rfl rfl fun v51=>?_
      refine Wk.dropr (.keep (.drop (Sub.refl _))) ?_
      repeat first|refine go ?_|with_reducible intro _
      refine Wk.inv ⟨_,by omega,i+1,_,_,hit,rfl,e7.trans e79,Sub.refl _,?_,Ev.kM⟩
      rw [List.take_succ_eq_append_getElem hit,List.map_append,←List.append_assoc]
      exact ElRL.snoc hone (hus.mono e79)
    ·have hin:i=(piecesE ts d (s.kid j) (e.kd j)).length:=by simp at hc;omega
     have hfin:(List.range (j+1)).flatMap (kidP ts d s e)=(List.range j).flatMap (kidP ts d s e)++(piecesE ts d (s.kid j) (e.kd j)).map (wrK e j):=by
      rw [List.range_succ,List.flatMap_append];simp [kidP,hmod]
     rw [hin,List.take_length,←hfin] at hus
     have hfl:((List.range j).flatMap (kidP ts d s e)).length+i=((List.range (j+1)).flatMap (kidP ts d s e)).length:=by rw [hfin,List.length_append,List.length_map,hin]
     rw [hfl]
     repeat first|refine go ?_|with_reducible intro _
     refine Wk.inv ⟨_,by omega,j+1,v7,_,hlt,rfl,e4.trans (e56.trans e7),Sub.refl _,hus,Ev.kM⟩
   ·have hjn:j=e.kids.length:=by simp at hc;omega
    subst hjn
    repeat first|refine go ?_|with_reducible intro _
    refine Wk.ret ⟨_,Rs.tmp rfl Rs.nil,_,Sub.refl _,_,hus,rfl⟩
end Go.Proofs.J
namespace Go.Proofs.J
open Go.Ev Go
theorem piecesOf_e {ts:List Tbl} (T:TsOk ts):∀ (d:Nat),d≤6→PiecesOfAt ts d
 | 0,_=>fun hl hs he w g so=>absurd w (by simp [IsW])
 | d+1,hd=>fun hl hs he w g so=>piecesOf_succ T hd (piecesOf_e T d Ev.wM) hl hs he w g so
theorem rElemDelta {Z:Zone} {cl ca cb:List Value} {l:Lat} {a b:El} {dd:Nat} (hl:LatR Z cl l) (ht:l.Th) (ha:ElR Z a ca) (hb:ElR Z b cb) (fa:a.Fit dd) (fb:b.Fit dd) :
  Cz M (.func (.func 45) #[] #[]) [.agg ⟨cl⟩,.agg ⟨ca⟩,.agg ⟨cb⟩] Z [] (fun v' Z' A'=>∃ cs,v'=.tuple ⟨[.agg ⟨cs⟩,.int .i64 (deltaR l a b).1]⟩∧ElR Z' (deltaR l a b).2 cs∧A'=[]):=by
 have hl0:=hl
 have ha0:=ha
 have hb0:=hb
 obtain ⟨l1,l2,l3,l4,rfl,hT,hS⟩:=hl.form
 obtain ⟨q1,q2,q3,q4,ua,rfl,ak,as_,aL⟩:=ha.form
 obtain ⟨r1,r2,r3,r4,ub,rfl,bk,bs_,bL⟩:=hb.form
 refine Cz.fn (f:=Tryz.f45) Ev.cM rfl rfl rfl _ rfl ?_
 repeat first|refine go ?_|with_reducible intro _
 rename_i b3 b4 b5 b6
 refine Wk.bs (cs:=[.int .u8 a.kind,.int .i64 a.n,.slice q1 a.keys.length q2,.slice q3 a.kids.length q4,.int .u8 b.kind,.int .i64 b.n,.slice r1 b.keys.length r2,.slice r3 b.kids.length r4]) rfl rfl rfl rfl rfl rfl rfl fun b9=>?_
 first|refine Wk.freezer Rem.head fun Z1 e1 h9=>?_|refine Wk.freeze Rem.head fun Z1 e1 h9=>?_
 repeat first|refine go ?_|with_reducible intro _
 refine Wk.call rfl rfl (Spl.none _) (rCheckEls (hl0.mono e1) ht (ElsR_two (ha0.mono e1) (hb0.mono e1) h9) (by simp) (Fit2 fa fb)) rfl rfl rfl ?_
 rintro v' Z' A' hz ⟨rfl,rfl,rfl⟩
 repeat first|refine go ?_|with_reducible intro _
 refine Wk.cond rfl (fun hc=>?_) (fun hc=>?_)
 ·have hne:ElsE l [a,b]≠0:=by simpa using hc
  have hj:deltaR l a b=(ElsE l [a,b],El.bot):=by unfold deltaR;rw [if_pos hne]
  rw [hj]
  repeat first|refine go ?_|with_reducible intro _
  refine Wk.ret ⟨_,Rs.cell rfl rfl Ev.hM rfl rfl (Rs.tmp rfl Rs.nil),_,Sub.none _,_,rfl,ElR_bot _,rfl⟩
 ·have h0:ElsE l [a,b]=0:=by simpa using hc
  obtain ⟨hC,hw⟩:=ElsE_zero h0
  obtain ⟨T,sok⟩:=CSE_ok ht hC
  obtain ⟨wa,ga⟩:=hw a (by simp)
  obtain ⟨wb,gb⟩:=hw b (by simp)
  have hj:deltaR l a b=(0,deltaE l.1 4 l.2 a b):=by unfold deltaR;rw [if_neg (by simpa using h0)]
  rw [hj]
  clear hc
  apply Wk.freeze (b:=b3)
  case p=>repeat (first|exact Rem.head|apply Rem.tail)
  intro Z2 e2 h3
  apply Wk.freeze (b:=b4)
  case p=>repeat (first|exact Rem.head|apply Rem.tail)
  intro Z3 e3 h4
  apply Wk.freeze (b:=b5)
  case p=>repeat (first|exact Rem.head|apply Rem.tail)
  intro Z4 e4 h5
  have e24:=(e2.trans e3).trans e4
  have e14:=e1.trans e24
  replace h3:=e4 _ _ (e3 _ _ h3)
  replace h4:=e4 _ _ h4
  repeat first|refine go ?_|with_reducible intro _
  rename_i b9'
  refine Wk.call rfl rfl (Spl.none _) (piecesOf_e T 4 Ev.wM (hT.mono e14) (hS.mono e14) (hb0.mono e14) wb gb sok) rfl rfl rfl ?_
  rintro v10 Z6 A6 hz6 ⟨up,hup,rfl⟩
  first|apply Wk.olFreezer (v:=v10)|apply Wk.olFreeze (v:=v10)
  case p=>repeat (first|exact Rem.head|apply Rem.tail)
  intro Z7 e7 s7
  obtain ⟨q10,c10,rfl⟩:=s7.form
  have e67:=hz6.trans e7
  have e17:=e14.trans e67
  replace hup:=hup.mono e7
  replace h3:=e67 _ _ h3
  replace h4:=e67 _ _ h4
  have hPl:=pieces_len6 T (by omega:4≤6) wb gb sok
  repeat first|refine go ?_|with_reducible intro _
  refine Wk.loop (fun w L Z' A'=>∃ (i:Nat),∃ x1 x2 x3 x4 x5 x6,i≤(piecesE l.1 4 l.2 b).length∧w=(piecesE l.1 4 l.2 b).length - i∧Ext Z7 Z'∧Sub A' [pt b9' (.cells [.int .u8 x1,.int .i64 x2,.slice x3 (dUp l.1 l.2 a ((piecesE l.1 4 l.2 b).take i)).keys.length x4,.slice x5 (dUp l.1 l.2 a ((piecesE l.1 4 l.2 b).take i)).kids.length x6] true 0),pt b6 (.cells [.int .u8 0,.int .i64 0,.slice none 0 0,.slice none 0 0] true 0)]∧ElR Z' (dUp l.1 l.2 a ((piecesE l.1 4 l.2 b).take i)) [.int .u8 x1,.int .i64 x2,.slice x3 (dUp l.1 l.2 a ((piecesE l.1 4 l.2 b).take i)).keys.length x4,.slice x5 (dUp l.1 l.2 a ((piecesE l.1 4 l.2 b).take i)).kids.length x6]∧Kp L [(3,.pointer (some ⟨b3,0,none⟩)),(4,.pointer (some ⟨b4,0,none⟩)),(6,.pointer (some ⟨b6,0,none⟩)),(9,.pointer (some ⟨b9',0,none⟩)),(10,.slice q10 (piecesE l.1 4 l.2 b).length c10),(11,.int .i64 i)]) (piecesE l.1 4 l.2 b).length ⟨0,0,0,none,0,none,0,Nat.zero_le _,rfl,Ext.refl _,.keep (.keep (Sub.none _)),ElR_bot _,Ev.kM⟩ ?_
  rintro w' L Z8 A8 - ⟨i,x1,x2,x3,x4,x5,x6,hi,rfl,e8,hsub,hout,hkp⟩
  refine Wk.drop hsub ?_
  refine Wk.kp hkp ?_
  clear hkp hsub
  have h3':=e8 _ _ h3
  have h4':=e8 _ _ h4
  have s8:=s7.mono e8
  repeat first|refine go ?_|with_reducible intro _
  refine Wk.cond rfl (fun hc=>?_) (fun hc=>?_)
  ·have hit:i < (piecesE l.1 4 l.2 b).length:=by simp at hc;omega
   clear hc
   obtain ⟨kp,np,xp1,mp1,yp1,xp2,mp2,yp2,gp,rp⟩:=hup.get i hit
   have rp8:=rp.mono e8
   obtain ⟨⟨wx,gx⟩,wo,gout⟩:=dUp_ok (a:=a) T.lat wb gb (rest:=(piecesE l.1 4 l.2 b).drop (i+1)) (by rw [←List.drop_eq_getElem_cons hit,List.take_append_drop])
   have hsnoc:(piecesE l.1 4 l.2 b).take (i+1)=(piecesE l.1 4 l.2 b).take i++[(piecesE l.1 4 l.2 b)[i]]:=List.take_succ_eq_append_getElem hit
   repeat first|refine go ?_|with_reducible intro _
   refine Wk.drawr (ms:=[0,1,0,4,0,0,48,112,0,511,1023]) (l:=[0,1,2,3,4,5,6,7,8,9,10]) Ev.cM Ev.cM Ev.cM rfl ?_
   repeat first|refine go ?_|with_reducible intro _
   refine Wk.call rfl rfl (Spl.none _) (rIsBelow_e T 4 (hT.mono (e17.trans e8)) (hS.mono (e17.trans e8)) rp8 (ha0.mono (e17.trans e8)) wx wa gx ga sok) Ev.cM rfl rfl ?_
   rintro v' Z' A' hz8 ⟨⟨r,rfl,hr⟩,rfl,rfl⟩
   repeat first|refine go ?_|with_reducible intro _
   refine Wk.cond rfl (fun hc=>?_) (fun hc=>?_)
   ·have hnle:¬ LeE l.1 4 l.2 (piecesE l.1 4 l.2 b)[i] a:=fun h=>by rw [hr.2 h] at hc;cases hc
    repeat first|refine go ?_|with_reducible intro _
    refine Wk.drawr (ms:=[0,1,0,4,0,0,0,96,224,511,1023]) (l:=[0,1,2,3,4,5,6,7,8,9,10]) Ev.cM Ev.cM Ev.cM rfl ?_
    repeat first|refine go ?_|with_reducible intro _
    refine Wk.call rfl rfl (Spl.none _) (rJoinOf T 4 (hT.mono (e17.trans e8)) (hS.mono (e17.trans e8)) hout rp8 wo wx gout gx sok) Ev.cM rfl rfl ?_
    rintro v40 Z9 A9 hz9 ⟨cs',rfl,hR,rfl⟩
    rw [←dUp_no hnle,←hsnoc] at hR
    obtain ⟨y1,y2,y3,y4,uy,rfl,_,_,_⟩:=hR.form
    refine Wk.store rfl rfl rfl rfl rfl Ev.uM rfl Ev.cM rfl ?_
    repeat first|refine go ?_|with_reducible intro _
    refine Wk.inv ⟨_,by omega,i+1,_,_,_,_,_,_,hit,rfl,e8.trans hz9,Sub.refl _,hR,Ev.kM⟩
   ·have hle:LeE l.1 4 l.2 (piecesE l.1 4 l.2 b)[i] a:=hr.1 (by simpa using hc)
    rw [←dUp_yes hle,←hsnoc] at hout
    have hdd:dUp l.1 l.2 a ((piecesE l.1 4 l.2 b).take i)=dUp l.1 l.2 a ((piecesE l.1 4 l.2 b).take (i+1)):=by rw [hsnoc,dUp_yes hle]
    repeat first|refine go ?_|with_reducible intro _
    rw [hdd]
    refine Wk.inv ⟨_,by omega,i+1,_,_,_,_,_,_,hit,rfl,e8,Sub.refl _,by simpa [hdd] using hout,Ev.kM⟩
  ·have hin:i=(piecesE l.1 4 l.2 b).length:=by simp at hc;omega
   rw [hin,List.take_length,dUp_all] at hout
   rw [hin,List.take_length,dUp_all]
   repeat first|refine go ?_|with_reducible intro _
   refine Wk.ret ⟨_,Rs.cell rfl rfl Ev.hM rfl rfl (Rs.tmp rfl Rs.nil),_,Sub.none _,_,rfl,hout,rfl⟩
end Go.Proofs.J
