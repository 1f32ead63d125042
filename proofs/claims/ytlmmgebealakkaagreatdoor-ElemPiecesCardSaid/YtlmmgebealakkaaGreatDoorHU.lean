/- HU -/
import Derived.Test.YtlmmgebealakkaaGreatDoorEvF
import Derived.Test.YtlmmgebealakkaaGreatDoorHK
set_option linter.unusedVariables false
set_option maxHeartbeats 4000000
set_option maxRecDepth 100000
set_option linter.unusedSimpArgs false
namespace Go.Proofs.J
open Go.Ev Go
def PiecesAt (ts:List Tbl) (d:Nat):Prop:=∀ {Z:Zone} {cl sc ce:List Value} {l:Lat} {s:Shp} {e:El},l.1=ts→LatR Z cl l→ShR Z s sc→ElR Z e ce→IsW ts d s e→¬ e.Great→s.Ok →
 Cz M (.func (.func 77) #[] #[]) [.agg ⟨cl⟩,.agg ⟨sc⟩,.agg ⟨ce⟩] Z [] (fun v' Z' A'=>YieldsE Z' v' (piecesE ts d s e)∧A'=[])
theorem kids_kind {ts:List Tbl} {d:Nat} {s:Shp} {e:El} (so:s.Ok) (w:IsW ts (d+1) s e) (hk:e.kind≠1∧e.kind≠2∧e.kind≠3∧e.kind≠4∧e.kind≠5) {j:Nat} (hj:j < e.kids.length) :
  0 < s.kids.length∧IsW ts d (s.kid (j % s.kids.length)) (e.kd j)∧(e.kind=6∧e.n=0∧e.keys.length=e.kids.length∨e.kind=7∧e.n=0∧e.keys.length=0∧e.kids.length=2):=by
 by_cases nb:e=El.bot
 ·subst nb;simp [El.bot,El.kids] at hj
 rcases w.kinds nb with k|k|k|k|k|k|k
 ·rw [w.inv1 nb k] at hk;exact absurd rfl hk.1
 ·obtain ⟨m,hm,rfl⟩:=w.inv2 nb k;exact absurd rfl hk.2.1
 ·rcases w.inv4 nb k with ⟨m,hm,rfl⟩|rfl
  ·exact absurd rfl hk.2.1
  ·exact absurd rfl hk.2.2.1
 ·obtain ⟨t,m,ht,h1,h2,rfl⟩:=w.inv5 nb k;exact absurd rfl hk.2.2.2.1
 ·obtain ⟨ks,hk2,rfl⟩:=w.inv3 nb k;exact absurd rfl hk.2.2.2.2
 ·obtain ⟨k0,ks,l,e0,hks,hl,hx,rfl⟩:=w.inv6 nb k
  have hkl:s.kids.length=1:=by
   have:=so.kids_.1
   rw [k] at this
   simpa [kidsOf] using this.symm
  have hj:j < l.length:=hj
  refine ⟨by omega,?_,.inl ⟨rfl,rfl,hl.symm⟩⟩
  rw [hkl,Nat.mod_one,Shp.kid_eq e0]
  have:(El.mk 6 0 ks l).kd j=l[j]:=by simp [El.kd,El.kids,hj]
  rw [this]
  exact (hx _ (List.getElem_mem hj)).2
 ·obtain ⟨k0,k1,x,y,e0,e1,hx,hy,hn,rfl⟩:=w.inv7 nb k
  have hkl:s.kids.length=2:=by
   have:=so.kids_.1
   rw [k] at this
   simpa [kidsOf] using this.symm
  have hj:j < 2:=hj
  refine ⟨by omega,?_,.inr ⟨rfl,rfl,rfl,rfl⟩⟩
  rw [hkl,Nat.mod_eq_of_lt hj]
  rcases (by omega:j=0∨j=1) with rfl|rfl
  ·rw [Shp.kid_eq e0];exact hx
  ·rw [Shp.kid_eq e1];exact hy
theorem inner_e {ts:List Tbl} (T:TsOk ts) {d:Nat} (ih:PiecesAt ts d) {Z:Zone} {cl sc ce:List Value} {l:Lat} {s:Shp} {e:El} (hts:l.1=ts) (hl:LatR Z cl l) (hs:ShR Z s sc) (he:ElR Z e ce) (w:IsW ts (d+1) s e) (g:¬ e.Great) (so:s.Ok) (hk:e.kind≠1∧e.kind≠2∧e.kind≠3∧e.kind≠4∧e.kind≠5)
  (yv:Value) (hyv:cellsL yv=[yv]) (A0:List SA) (J:List El→Zone→List SA→Prop) (hm:∀ done Z' Z'' A',Ext Z' Z''→J done Z' A'→J done Z'' A') (h0:J [] Z A0)
  (hstep:∀ done x rest Z' A' cs,piecesE ts (d+1) s e=done++x::rest→Ext Z Z'→J done Z' A'→ElR Z' x cs→Cz M yv [.agg ⟨cs⟩] Z' A' (fun v Z'' A''=>v=.bool true∧J (done++[x]) Z'' A'')) :
  Cz M (.func (.func 115) #[] #[]) [.agg ⟨cl⟩,.agg ⟨sc⟩,.agg ⟨ce⟩,yv] Z A0 (fun v Z' A'=>J (piecesE ts (d+1) s e) Z' A'):=by
 have hpk:=pieces_kids so w hk
 rw [hpk] at hstep ⊢
 have hl0:=hl
 have hs0:=hs
 have he0:=he
 have sg:=small_iff.1 g
 obtain ⟨l1,l2,l3,l4,rfl,hT,_⟩:=hl.form
 obtain ⟨p1,p2,usk,rfl,hsk,hsL⟩:=hs.form
 obtain ⟨q1,q2,q3,q4,ue,rfl,ek,es,eL⟩:=he.form
 refine Cz.fn (f:=Tryz.f115) Ev.cM rfl rfl rfl _ rfl ?_
 repeat first|refine go ?_|with_reducible intro _
 refine Wk.boxS rfl rfl rfl hyv fun b7=>?_
 rename_i b4 b5 b6
 apply Wk.freezer (b:=b4)
 case p=>repeat (first|exact Rem.head|apply Rem.tail)
 intro Z1 e1 h4
 apply Wk.freezer (b:=b5)
 case p=>repeat (first|exact Rem.head|apply Rem.tail)
 intro Z2 e2 h5
 apply Wk.freezer (b:=b6)
 case p=>repeat (first|exact Rem.head|apply Rem.tail)
 intro Z3 e3 h6
 apply Wk.freezer (b:=b7)
 case p=>repeat (first|exact Rem.head|apply Rem.tail)
 intro Z4 e4 h7
 replace h4:=e4 _ _ (e3 _ _ (e2 _ _ h4))
 replace h5:=e4 _ _ (e3 _ _ h5)
 replace h6:=e4 _ _ h6
 have e14:=((e1.trans e2).trans e3).trans e4
 repeat first|refine go ?_|with_reducible intro _
 refine Wk.loop (fun w L Z' A'=>∃ j:Nat,j≤e.kids.length∧w=e.kids.length - j∧Ext Z4 Z'∧J ((List.range j).flatMap (kidP ts d s e)) Z' A'∧Kp L [(4,.pointer (some ⟨b4,0,none⟩)),(5,.pointer (some ⟨b5,0,none⟩)),(6,.pointer (some ⟨b6,0,none⟩)),(7,.pointer (some ⟨b7,0,none⟩)),(13,.slice q3 e.kids.length q4),(14,.int .i64 e.kids.length),(15,.int .i64 j)]) e.kids.length ⟨0,Nat.zero_le _,rfl,Ext.refl _,hm _ _ _ _ e14 h0,Ev.kM⟩ ?_
 rintro w L Z5 A' - ⟨j,hj,rfl,e5,hJ,hk2⟩
 refine Wk.kp hk2 ?_
 clear hk2
 have e15:=e14.trans e5
 have h4':=e5 _ _ h4
 have h5':=e5 _ _ h5
 have h6':=e5 _ _ h6
 have h7':=e5 _ _ h7
 have es':=es.mono e15
 have hsk':=hsk.mono e15
 repeat first|refine go ?_|with_reducible intro _
 refine Wk.cond rfl (fun hc=>?_) (fun hc=>?_)
 ·have hlt:j < e.kids.length:=by simp at hc;omega
  clear hc
  obtain ⟨hsl,hkw,hkk⟩:=kids_kind so w hk hlt
  have hmod:j % s.kids.length < s.kids.length:=Nat.mod_lt _ hsl
  obtain ⟨k',n',x1,m1,y1,x2,m2,y2,gx,rrx⟩:=eL.get j hlt
  obtain ⟨ks',ns',a0,m0,c0,gs0,rs0⟩:=hsL.get (j % s.kids.length) hmod
  have hkid:e.kids[j]=e.kd j:=by simp [El.kd,hlt]
  have hskid:s.kids[j % s.kids.length]=s.kid (j % s.kids.length):=(Shp.kid_eq (List.getElem?_eq_getElem hmod)).symm
  have gk:¬ (e.kd j).Great:=by rw [←hkid];exact sg.2 _ (List.getElem_mem hlt)
  have sok:(s.kid (j % s.kids.length)).Ok:=by rw [←hskid];exact so.kids_.2 _ (List.getElem_mem hmod)
  rw [hkid] at rrx
  rw [hskid] at rs0
  repeat first|refine go ?_|with_reducible intro _
  rename_i _ _ _ b8 b9
  apply Wk.freeze (b:=b8)
  case p=>repeat (first|exact Rem.head|apply Rem.tail)
  intro Z6 e6 h8
  apply Wk.freeze (b:=b9)
  case p=>repeat (first|exact Rem.head|apply Rem.tail)
  intro Z7 e7 h9
  have e67:=e6.trans e7
  replace h8:=e7 _ _ h8
  have h4'':=e67 _ _ h4'
  have h5'':=e67 _ _ h5'
  have h6'':=e67 _ _ h6'
  have h7'':=e67 _ _ h7'
  have hsk'':=hsk'.mono e67
  have e17:=e15.trans e67
  clear h4 h5 h6 h7 h4' h5' h6' h7' hsk' es'
  repeat first|refine go ?_|with_reducible intro _
  refine Wk.drawr (ms:=[0,0,2,0,0,16,48,120,254,510,0,2047]) (l:=[0,1,2,3,4,5,6,7,8,9,10,11]) Ev.cM Ev.cM Ev.cM rfl ?_
  repeat first|refine go ?_|with_reducible intro _
  refine Wk.call rfl rfl (Spl.none _) (ih hts (hl0.mono e17) (rs0.mono e17) (rrx.mono e17) hkw gk sok) Ev.cM rfl rfl ?_
  rintro v31 Z8 A8 hz8 ⟨hY,rfl⟩
  obtain ⟨after,hafter⟩:=flatMap_range (kidP ts d s e) hlt
  repeat first|refine go ?_|with_reducible intro _
  refine rangeY (l:=piecesE ts d (s.kid (j % s.kids.length)) (e.kd j)) (fun done Z' A'=>Ext Z8 Z'∧J ((List.range j).flatMap (kidP ts d s e)++done.map (wrK e j)) Z' A') (fun _ _ _=>rfl) rfl hY rfl (by simp) (fun done Z' Z'' A' hz h=>⟨h.1.trans hz,hm _ _ _ _ hz h.2⟩) ⟨Ext.refl _,by simpa using hm _ _ _ _ (e67.trans hz8) hJ⟩ ?_ ?_
  ·rintro done x rest Z9 A9 cs q hsplit hz9 ⟨hz89,hJ9⟩ hx
   have hx0:=hx
   obtain ⟨w1,w2,w3,w4,uw,rfl,_,_,_⟩:=hx.form
   repeat first|refine go ?_|with_reducible intro _
   rename_i b10
   refine Wk.done ⟨rfl,_,.tail .head,?_⟩
   have e79:=hz8.trans hz9
   have h6c:=e79 _ _ h6''
   have h7c:=e79 _ _ h7''
   have h8c:=e79 _ _ h8
   have h9c:=e79 _ _ h9
   have hwhole:(List.range e.kids.length).flatMap (kidP ts d s e)=((List.range j).flatMap (kidP ts d s e)++done.map (wrK e j))++wrK e j x::(rest.map (wrK e j)++after):=by
    rw [hafter,kidP,hsplit];simp
   repeat first|refine go ?_|with_reducible intro _
   refine Wk.bs (cs:=[.int .u8 x.kind,.int .i64 x.n,.slice w1 x.keys.length w2,.slice w3 x.kids.length w4]) rfl rfl rfl rfl rfl rfl rfl fun b34=>?_
   repeat first|refine go ?_|with_reducible intro _
   rename_i b11
   refine Wk.cond rfl (fun hc=>?_) (fun hc=>?_)
   ·have k7:e.kind=7:=by simpa using hc
    clear hc
    obtain ⟨_,_,_,hl2⟩:e.kind=7∧e.n=0∧e.keys.length=0∧e.kids.length=2:=by
     rcases hkk with h|h
     ·rw [k7] at h;exact absurd h.1 (by decide)
     ·exact h
    rcases (by omega:j=0∨j=1) with rfl|rfl
    ·repeat first|refine go ?_|with_reducible intro _
     refine Wk.mks 2 2 rfl rfl rfl rfl rfl rfl rfl rfl (Nat.le_refl _) (by decide) (by decide) fun b39=>?_
     repeat first|refine go ?_|with_reducible intro _
     refine Wk.iaV 0 rfl rfl rfl rfl rfl rfl rfl Ev.wM ?_
     repeat first|refine go ?_|with_reducible intro _
     apply Wk.freezer (b:=b39)
     case p=>repeat (first|exact Rem.head|apply Rem.tail)
     intro Z10 e10 h39
     apply Wk.freezer (b:=b11)
     case p=>repeat (first|exact Rem.head|apply Rem.tail)
     intro Z12 e12 h11
     apply Wk.freezer (b:=b10)
     case p=>repeat (first|exact Rem.head|apply Rem.tail)
     intro Z13 e13 h10
     apply Wk.freezer (b:=b34)
     case p=>repeat (first|exact Rem.head|apply Rem.tail)
     intro Z14 e14' h34
     have e9d:=((e10.trans e12).trans e13).trans e14'
     have h7d:=e9d _ _ h7c
     replace h39:=e14' _ _ (e13 _ _ (e12 _ _ h39))
     have hone:ElR Z14 (wrK e 0 x) [.int .u8 7,.int .i64 0,.slice none 0 0,.slice (some ⟨b39,0,none⟩) 2 2]:=by
      have hw:wrK e 0 x=.mk 7 0 [] [x,El.bot]:=by simp [wrK,k7]
      rw [hw]
      exact ElR.of (s:=.mk 7 0 [] [x,El.bot]) (.inl ⟨rfl,rfl,rfl⟩) (.inr ⟨b39,0,2,_,_,_,rfl,Nat.le_refl _,h39,rfl,.inl rfl⟩) (ElRL.snoc (ElR_bot _) (ElRL.snoc (hx0.mono e9d) (l:=[]) (us:=[]) (by simp [ElRL])))
     refine Wk.call rfl rfl (.r (Spl.all _)) (hstep _ _ _ _ _ _ hwhole (e17.trans (hz8.trans (hz9.trans e9d))) (hm _ _ _ _ e9d hJ9) hone) rfl rfl rfl ?_
     rintro v' Z15 A15 hz15 ⟨rfl,hJ15⟩
     repeat first|refine go ?_|with_reducible intro _
     refine Wk.done ⟨rfl,_,Rem_last,hz89.trans (e9d.trans hz15),?_⟩
     simpa using hJ15
    ·repeat first|refine go ?_|with_reducible intro _
     refine Wk.mks 2 2 rfl rfl rfl rfl rfl rfl rfl rfl (Nat.le_refl _) (by decide) (by decide) fun b39=>?_
     repeat first|refine go ?_|with_reducible intro _
     refine Wk.iaV 1 rfl rfl rfl rfl rfl rfl rfl Ev.wM ?_
     repeat first|refine go ?_|with_reducible intro _
     apply Wk.freezer (b:=b39)
     case p=>repeat (first|exact Rem.head|apply Rem.tail)
     intro Z10 e10 h39
     apply Wk.freezer (b:=b11)
     case p=>repeat (first|exact Rem.head|apply Rem.tail)
     intro Z12 e12 h11
     apply Wk.freezer (b:=b10)
     case p=>repeat (first|exact Rem.head|apply Rem.tail)
     intro Z13 e13 h10
     apply Wk.freezer (b:=b34)
     case p=>repeat (first|exact Rem.head|apply Rem.tail)
     intro Z14 e14' h34
     have e9d:=((e10.trans e12).trans e13).trans e14'
     have h7d:=e9d _ _ h7c
     replace h39:=e14' _ _ (e13 _ _ (e12 _ _ h39))
     have hone:ElR Z14 (wrK e 1 x) [.int .u8 7,.int .i64 0,.slice none 0 0,.slice (some ⟨b39,0,none⟩) 2 2]:=by
      have hw:wrK e 1 x=.mk 7 0 [] [El.bot,x]:=by simp [wrK,k7]
      rw [hw]
      exact ElR.of (s:=.mk 7 0 [] [El.bot,x]) (.inl ⟨rfl,rfl,rfl⟩) (.inr ⟨b39,0,2,_,_,_,rfl,Nat.le_refl _,h39,rfl,.inl rfl⟩) (ElRL.snoc (hx0.mono e9d) (ElRL.snoc (ElR_bot _) (l:=[]) (us:=[]) (by simp [ElRL])))
     refine Wk.call rfl rfl (.r (Spl.all _)) (hstep _ _ _ _ _ _ hwhole (e17.trans (hz8.trans (hz9.trans e9d))) (hm _ _ _ _ e9d hJ9) hone) rfl rfl rfl ?_
     rintro v' Z15 A15 hz15 ⟨rfl,hJ15⟩
     repeat first|refine go ?_|with_reducible intro _
     refine Wk.done ⟨rfl,_,Rem_last,hz89.trans (e9d.trans hz15),?_⟩
     simpa using hJ15
   ·have k6:e.kind=6∧e.n=0∧e.keys.length=e.kids.length:=by
     rcases hkk with h|h
     ·exact h
     ·exfalso;simp [h.1] at hc
    clear hc
    have hjk:j < e.keys.length:=by omega
    have ek9:=ek.mono (e17.trans (hz8.trans hz9))
    repeat first|refine go ?_|with_reducible intro _
    refine Wk.bs (cs:=[.int .i64 e.keys[j]]) rfl rfl rfl rfl rfl rfl rfl fun b51=>?_
    repeat first|refine go ?_|with_reducible intro _
    apply Wk.freezer (b:=b34)
    case p=>repeat (first|exact Rem.head|apply Rem.tail)
    intro Z10 e10 h34
    apply Wk.freezer (b:=b51)
    case p=>repeat (first|exact Rem.head|apply Rem.tail)
    intro Z11 e11 h51
    apply Wk.freezer (b:=b11)
    case p=>repeat (first|exact Rem.head|apply Rem.tail)
    intro Z12 e12 h11
    apply Wk.freezer (b:=b10)
    case p=>repeat (first|exact Rem.head|apply Rem.tail)
    intro Z13 e13 h10
    have e9d:=((e10.trans e11).trans e12).trans e13
    have h7d:=e9d _ _ h7c
    replace h11:=e13 _ _ h11
    replace h51:=e13 _ _ (e12 _ _ h51)
    replace h34:=e13 _ _ (e12 _ _ (e11 _ _ h34))
    have hone:ElR Z13 (wrK e j x) [.int .u8 6,.int .i64 0,.slice (some ⟨b51,0,none⟩) 1 1,.slice (some ⟨b34,0,none⟩) 1 1]:=by
     have hw:wrK e j x=.mk 6 0 [e.keys[j]] [x]:=by simp [wrK,k6.1,hjk]
     rw [hw]
     exact ElR.of (s:=.mk 6 0 [e.keys[j]] [x]) (.inr ⟨b51,0,1,_,_,_,rfl,Nat.le_refl _,h51,rfl,.inl rfl⟩) (.inr ⟨b34,0,1,_,_,_,rfl,Nat.le_refl _,h34,rfl,.inl rfl⟩) (ElRL.snoc (hx0.mono e9d) (l:=[]) (us:=[]) (by simp [ElRL]))
    repeat first|refine go ?_|with_reducible intro _
    refine Wk.call rfl rfl (.r (Spl.all _)) (hstep _ _ _ _ _ _ hwhole (e17.trans (hz8.trans (hz9.trans e9d))) (hm _ _ _ _ e9d hJ9) hone) rfl rfl rfl ?_
    rintro v' Z14 A14 hz14 ⟨rfl,hJ14⟩
    repeat first|refine go ?_|with_reducible intro _
    refine Wk.done ⟨rfl,_,Rem_last,hz89.trans (e9d.trans hz14),?_⟩
    simpa using hJ14
  ·rintro Z9 A9 hz9 ⟨hz89,hJ9⟩
   have e19:=hz8.trans hz9
   repeat first|refine go ?_|with_reducible intro _
   refine Wk.inv ⟨_,by omega,j+1,hlt,rfl,e5.trans (e67.trans e19),?_,Ev.kM⟩
   rw [List.range_succ,List.flatMap_append]
   simpa [kidP] using hJ9
 ·have hjn:j=e.kids.length:=by simp at hc;omega
  subst hjn
  repeat first|refine go ?_|with_reducible intro _
  refine Wk.done ⟨_,Rs.nil,_,Sub.refl _,?_⟩
  exact hJ
end Go.Proofs.J
namespace Go.Proofs.J
open Go.Ev Go
theorem el_kinds {ts:List Tbl} {d:Nat} {s:Shp} {e:El} (w:IsW ts (d+1) s e):(e.kind=1∨e.kind=2∨e.kind=3)∨(e.kind=4∧∃ (t:Tbl) (m:Nat),Tof ts s.name t∧1≤m∧m < t.elems.length∧e=.mk 4 m [] [])∨(e.kind=5∧∃ ks,Ks ks∧e=.mk 5 0 ks [])∨(e.kind≠1∧e.kind≠2∧e.kind≠3∧e.kind≠4∧e.kind≠5):=by
 by_cases nb:e=El.bot
 ·subst nb;exact .inr (.inr (.inr (by simp [El.bot,El.kind])))
 rcases w.kinds nb with k|k|k|k|k|k|k
 ·rw [w.inv1 nb k];exact .inl (.inl rfl)
 ·obtain ⟨m,hm,rfl⟩:=w.inv2 nb k;exact .inl (.inr (.inl rfl))
 ·rcases w.inv4 nb k with ⟨m,hm,rfl⟩|rfl
  ·exact .inl (.inr (.inl rfl))
  ·exact .inl (.inr (.inr rfl))
 ·obtain ⟨t,m,ht,h1,h2,rfl⟩:=w.inv5 nb k;exact .inr (.inl ⟨rfl,t,m,ht,h1,h2,rfl⟩)
 ·obtain ⟨ks,hk2,rfl⟩:=w.inv3 nb k;exact .inr (.inr (.inl ⟨rfl,ks,hk2,rfl⟩))
 ·obtain ⟨k0,ks,l,e0,hks,hl,hx,rfl⟩:=w.inv6 nb k;exact .inr (.inr (.inr (by simp [El.kind])))
 ·obtain ⟨k0,k1,x,y,e0,e1,hx,hy,hn,rfl⟩:=w.inv7 nb k;exact .inr (.inr (.inr (by simp [El.kind])))
theorem pieces_flat {ts:List Tbl} {d:Nat} {s:Shp} {e:El} (h:e.kind=1∨e.kind=2∨e.kind=3):piecesE ts (d+1) s e=[e]:=by rw [piecesE,if_pos h]
theorem map_split {α β:Type} {l:List α} {i:Nat} (h:i < l.length) (f:α→β):l.map f=(l.take i).map f++f l[i]::(l.drop (i+1)).map f:=by
 rw [←List.map_cons,←List.drop_eq_getElem_cons h,←List.map_append,List.take_append_drop]
theorem pieces1_e {ts:List Tbl} (T:TsOk ts) {d:Nat} (ih:PiecesAt ts d) {Z:Zone} {b2 b3 b5:Nat} {cl sc ce:List Value} {l:Lat} {s:Shp} {e:El} (h2:Z b2=some (.cells cl true 0)) (h3:Z b3=some (.cells sc true 0)) (h5:Z b5=some (.cells ce true 0)) (hts:l.1=ts) (hl:LatR Z cl l) (hs:ShR Z s sc) (he:ElR Z e ce) (w:IsW ts (d+1) s e) (g:¬ e.Great) (so:s.Ok) :
  YieldsE Z (.func (.func 113) #[] ⟨[.pointer (some ⟨b5,0,none⟩),.pointer (some ⟨b2,0,none⟩),.pointer (some ⟨b3,0,none⟩)]⟩) (piecesE ts (d+1) s e):=by
 intro yv Z1 A0 J e1 hyv hm h0 hstep
 replace h2:=e1 _ _ h2
 replace h3:=e1 _ _ h3
 replace h5:=e1 _ _ h5
 replace hl:=hl.mono e1
 replace hs:=hs.mono e1
 replace he:=he.mono e1
 have hl0:=hl
 have hs0:=hs
 have he0:=he
 have sg:=small_iff.1 g
 have fe:=w.fit T.ok g
 obtain ⟨l1,l2,l3,l4,rfl,hT,_⟩:=hl.form
 obtain ⟨p1,p2,usk,rfl,hsk,hsL⟩:=hs.form
 obtain ⟨q1,q2,q3,q4,ue,rfl,ek,es,eL⟩:=he.form
 rcases el_kinds w with hk|⟨k,t,m,ht,hm1,hm2,rfl⟩|⟨k,ks,hks,rfl⟩|hk
 ·rw [pieces_flat hk] at hstep ⊢
  rcases hk with k|k|k <;>
  ·rw [k] at h5 he0
   refine Cz.fn (f:=Tryz.f113) Ev.cM rfl rfl rfl _ rfl ?_
   repeat first|refine go ?_|with_reducible intro _
   refine Wk.call rfl rfl (Spl.none _) (clone_ (d+1) fe he0) rfl rfl rfl ?_
   rintro v' Z2 A' hz ⟨cs',rfl,hR,rfl⟩
   repeat first|refine go ?_|with_reducible intro _
   refine Wk.call rfl rfl (Spl.all _) (hstep [] e [] _ _ _ rfl hz (hm _ _ _ _ hz h0) hR) rfl rfl rfl ?_
   rintro v' Z3 A3 hz3 ⟨rfl,hJ⟩
   repeat first|refine go ?_|with_reducible intro _
   refine Wk.done ⟨_,Rs.nil,_,Sub.refl _,?_⟩
   rw [List.append_nil]
   exact hJ
 ·-- named
  have htm:t∈l.1:=by rw [hts];exact ht.mem
  rw [pieces_4,ht.eq] at hstep ⊢
  have e9:((m:Int)).toNat=m:=rfl
  rw [e9] at hstep ⊢
  refine Cz.fn (f:=Tryz.f113) Ev.cM rfl rfl rfl _ rfl ?_
  repeat first|refine go ?_|with_reducible intro _
  refine Wk.drawr (ms:=[0,0,3,0,8,31,63,127,127,255,1023]) (l:=[0,1,3,4,2,5,6,7,8,9,10]) Ev.cM Ev.cM Ev.cM rfl ?_
  repeat first|refine go ?_|with_reducible intro _
  refine Wk.callD rfl rfl (Spl.none _) (table_ hl0 hs0 (by rw [hts];exact T.len) ⟨t,htm,by rcases ht with ⟨_,_,_,h,_⟩;exact h⟩) rfl rfl fun v31 Z9 A' hz9 hq=>?_
  obtain ⟨⟨t',nm,a1,m1,c1,a2,m2,c2,a3,m3,c3,rfl,hto,htb⟩,rfl,rfl⟩:=hq
  rw [hts] at hto
  obtain rfl:=ht.uniq hto
  refine ⟨?_,?_⟩
  ·exact Ev.pM2
  repeat first|refine go ?_|with_reducible intro _
  refine Wk.call rfl rfl (Spl.none _) (oParts htb (T.sm _ ht.mem) (T.ok _ ht.mem) (T.lat _ ht.mem) rfl m hm2) Ev.cM rfl rfl ?_
  rintro v34 Z2 A' hz ⟨vs,rfl,rfl⟩
  first|apply Wk.olFreezer (v:=vs)|apply Wk.olFreeze (v:=vs)
  case p=>repeat (first|exact Rem.head|apply Rem.tail)
  intro Z3 e3 s3
  obtain ⟨q5,c5,rfl⟩:=s3.form
  have hpl:(t.parts m).length≤12:=by
   have h12:t.elems.length≤12:=(T.ok _ ht.mem).2.2.1
   have:(t.parts m).length≤t.elems.length:=by unfold Tbl.parts;exact Nat.le_trans (List.length_filter_le ..) (by simp)
   omega
  have hz13:=hz.trans e3
  repeat first|refine go ?_|with_reducible intro _
  refine Wk.loop (fun w L Z' A'=>∃ i:Nat,i≤(t.parts m).length∧w=(t.parts m).length - i∧Ext Z3 Z'∧J (((t.parts m).take i).map fun p:Nat=>El.mk 4 (p:Nat) [] []) Z' A'∧Kp L [(0,yv),(37,.slice q5 (t.parts m).length c5),(38,.int .i64 (t.parts m).length),(39,.int .i64 i)]) (t.parts m).length ⟨0,Nat.zero_le _,rfl,Ext.refl _,by simpa using hm _ _ _ _ hz13 h0,Ev.kM⟩ ?_
  rintro w L Z4 A4 - ⟨i,hi,rfl,e4,hJ,hkp⟩
  refine Wk.kp hkp ?_
  clear hkp
  have s4:=s3.mono e4
  repeat first|refine go ?_|with_reducible intro _
  refine Wk.cond rfl (fun hc=>?_) (fun hc=>?_)
  ·have hlt:i < (t.parts m).length:=by simp at hc;omega
   clear hc
   have hgi:getCells (nats (t.parts m)) (i*1) 1=some [.int .i64 ((t.parts m)[i]:Nat)]:=getCells_one (by rw [Nat.mul_one];exact nats_get hlt)
   repeat first|refine go ?_|with_reducible intro _
   refine Wk.call rfl rfl (Spl.all _) (hstep _ _ _ _ _ _ (map_split hlt _) (hz13.trans e4) hJ (ElR_flat _ 4 ((t.parts m)[i]:Nat))) rfl rfl rfl ?_
   rintro v' Z5 A5 hz5 ⟨rfl,hJ5⟩
   rw [List.append_nil]
   repeat first|refine go ?_|with_reducible intro _
   refine Wk.inv ⟨_,by omega,i+1,hlt,rfl,e4.trans hz5,?_,Ev.kM⟩
   rw [List.take_succ_eq_append_getElem hlt,List.map_append]
   exact hJ5
  ·have hin:i=(t.parts m).length:=by simp at hc;omega
   rw [hin,List.take_length] at hJ
   repeat first|refine go ?_|with_reducible intro _
   refine Wk.done ⟨_,Rs.nil,_,Sub.refl _,hJ⟩
 ·rw [pieces_5] at hstep ⊢
  have hkl:ks.length≤40:=sg.1
  refine Cz.fn (f:=Tryz.f113) Ev.cM rfl rfl rfl _ rfl ?_
  repeat first|refine go ?_|with_reducible intro _
  refine Wk.loop (fun w L Z' A'=>∃ i:Nat,i≤ks.length∧w=ks.length - i∧Ext Z1 Z'∧J ((ks.take i).map fun k=>El.mk 5 0 [k] []) Z' A'∧Kp L [(0,yv),(52,.slice q1 ks.length q2),(53,.int .i64 ks.length),(54,.int .i64 i)]) ks.length ⟨0,Nat.zero_le _,rfl,Ext.refl _,by simpa using h0,Ev.kM⟩ ?_
  rintro w L Z4 A4 - ⟨i,hi,rfl,e4,hJ,hkp⟩
  refine Wk.kp hkp ?_
  clear hkp
  have s4:Sl Z4 1 (.slice q1 ks.length q2) ks.length (nums ks):=ek.mono e4
  repeat first|refine go ?_|with_reducible intro _
  refine Wk.cond rfl (fun hc=>?_) (fun hc=>?_)
  ·have hlt:i < ks.length:=by simp at hc;omega
   clear hc
   repeat first|refine go ?_|with_reducible intro _
   refine Wk.bs (cs:=[.int .i64 ks[i]]) rfl rfl rfl rfl rfl rfl rfl fun b60=>?_
   apply Wk.freezer (b:=b60)
   case p=>repeat (first|exact Rem.head|apply Rem.tail)
   intro Z5 e5 h60
   repeat first|refine go ?_|with_reducible intro _
   refine Wk.call rfl rfl (Spl.all _) (hstep _ _ _ _ _ _ (map_split hlt _) (e4.trans e5) (hm _ _ _ _ e5 hJ) (ElR.of (s:=.mk 5 0 [ks[i]] []) (.inr ⟨b60,0,1,_,_,_,rfl,Nat.le_refl _,h60,rfl,.inl rfl⟩) (.inl ⟨rfl,rfl,rfl⟩) (by simp [ElRL,El.kids]))) rfl rfl rfl ?_
   rintro v' Z6 A6 hz6 ⟨rfl,hJ6⟩
   rw [List.append_nil]
   repeat first|refine go ?_|with_reducible intro _
   refine Wk.inv ⟨_,by omega,i+1,hlt,rfl,e4.trans (e5.trans hz6),?_,Ev.kM⟩
   rw [List.take_succ_eq_append_getElem hlt,List.map_append]
   exact hJ6
  ·have hin:i=ks.length:=by simp at hc;omega
   rw [hin,List.take_length] at hJ
   repeat first|refine go ?_|with_reducible intro _
   refine Wk.done ⟨_,Rs.nil,_,Sub.refl _,hJ⟩
 ·obtain ⟨n1,n2,n3,n4,n5⟩:=hk
  have c1:(e.kind==1)=false:=by simpa using n1
  have c2:(e.kind==2)=false:=by simpa using n2
  have c3:(e.kind==3)=false:=by simpa using n3
  have c4:(e.kind==4)=false:=by simpa using n4
  have c5:(e.kind==5)=false:=by simpa using n5
  refine Cz.fn (f:=Tryz.f113) Ev.cM rfl rfl rfl _ rfl ?_
  repeat first|refine go ?_|with_reducible intro _
  refine Wk.cond rfl (fun hc=>?_) (fun hc=>?_)
  ·rw [c1] at hc;cases hc
  repeat first|refine go ?_|with_reducible intro _
  refine Wk.cond rfl (fun hc=>?_) (fun hc=>?_)
  ·rw [c2] at hc;cases hc
  repeat first|refine go ?_|with_reducible intro _
  refine Wk.cond rfl (fun hc=>?_) (fun hc=>?_)
  ·rw [c3] at hc;cases hc
  repeat first|refine go ?_|with_reducible intro _
  refine Wk.cond rfl (fun hc=>?_) (fun hc=>?_)
  ·rw [c4] at hc;cases hc
  repeat first|refine go ?_|with_reducible intro _
  refine Wk.cond rfl (fun hc=>?_) (fun hc=>?_)
  ·rw [c5] at hc;cases hc
  repeat first|refine go ?_|with_reducible intro _
  refine Wk.call rfl rfl (Spl.all _) (inner_e T ih hts hl0 hs0 he0 w g so ⟨n1,n2,n3,n4,n5⟩ yv hyv A0 J hm h0 hstep) rfl rfl rfl ?_
  rintro v' Z2 A2 hz2 hJ
  rw [List.append_nil]
  repeat first|refine go ?_|with_reducible intro _
  refine Wk.done ⟨_,Rs.nil,_,Sub.refl _,hJ⟩
theorem pieces_succ {ts:List Tbl} (T:TsOk ts) {d:Nat} (ih:PiecesAt ts d) {Z:Zone} {cl sc ce:List Value} {l:Lat} {s:Shp} {e:El} (hts:l.1=ts) (hl:LatR Z cl l) (hs:ShR Z s sc) (he:ElR Z e ce) (w:IsW ts (d+1) s e) (g:¬ e.Great) (so:s.Ok) :
  Cz M (.func (.func 77) #[] #[]) [.agg ⟨cl⟩,.agg ⟨sc⟩,.agg ⟨ce⟩] Z [] (fun v' Z' A'=>YieldsE Z' v' (piecesE ts (d+1) s e)∧A'=[]):=by
 have hl0:=hl
 have hs0:=hs
 have he0:=he
 obtain ⟨l1,l2,l3,l4,rfl,hT,_⟩:=hl.form
 obtain ⟨p1,p2,usk,rfl,hsk,hsL⟩:=hs.form
 obtain ⟨q1,q2,q3,q4,ue,rfl,ek,es,eL⟩:=he.form
 refine Cz.fn (f:=Tryz.f77) Ev.cM rfl rfl rfl _ rfl ?_
 repeat first|refine go ?_|with_reducible intro _
 rename_i b3 b4 b5
 apply Wk.freeze (b:=b3)
 case p=>repeat (first|exact Rem.head|apply Rem.tail)
 intro Z1 e1 h3
 apply Wk.freeze (b:=b4)
 case p=>repeat (first|exact Rem.head|apply Rem.tail)
 intro Z2 e2 h4
 apply Wk.freeze (b:=b5)
 case p=>repeat (first|exact Rem.head|apply Rem.tail)
 intro Z3 e3 h5
 have e13:=(e1.trans e2).trans e3
 replace h3:=e3 _ _ (e2 _ _ h3)
 replace h4:=e3 _ _ h4
 repeat first|refine go ?_|with_reducible intro _
 refine Wk.ret ⟨_,Rs.tmp rfl Rs.nil,_,Sub.refl _,pieces1_e T ih h3 h4 h5 hts (hl0.mono e13) (hs0.mono e13) (he0.mono e13) w g so,rfl⟩
theorem pieces_e {ts:List Tbl} (T:TsOk ts):∀ (d:Nat),PiecesAt ts d
 | 0=>fun hts hl hs he w g so=>absurd w (by simp [IsW])
 | d+1=>fun hts hl hs he w g so=>pieces_succ T (pieces_e T d) hts hl hs he w g so
end Go.Proofs.J
namespace Go.Proofs.J
open Go.Ev Go
noncomputable def deltaR (l:Lat) (a b:El):Int×El:=if ElsE l [a,b]≠0 then (ElsE l [a,b],El.bot) else (0,deltaE l.1 4 l.2 a b)
open Classical in
noncomputable def dUp (ts:List Tbl) (s:Shp) (a:El) (done:List El):El:=foldJ ts 4 s (done.filter fun p=>decide (¬ LeE ts 4 s p a))
theorem dUp_yes {ts:List Tbl} {s:Shp} {a x:El} {done:List El} (h:LeE ts 4 s x a):dUp ts s a (done++[x])=dUp ts s a done:=by
 unfold dUp;rw [List.filter_append];simp [h]
theorem dUp_no {ts:List Tbl} {s:Shp} {a x:El} {done:List El} (h:¬ LeE ts 4 s x a):dUp ts s a (done++[x])=joinE ts 4 s (dUp ts s a done) x:=by
 unfold dUp;rw [List.filter_append];simp only [List.filter_cons,List.filter_nil,h,not_false_eq_true,decide_true,if_true];exact foldJ_snoc
theorem dUp_all {ts:List Tbl} {s:Shp} {a b:El}:dUp ts s a (piecesE ts 4 s b)=deltaE ts 4 s a b:=rfl
theorem dUp_ok {ts:List Tbl} (L:Lats ts) {s:Shp} {a b:El} (wb:IsW ts 4 s b) (gb:¬ b.Great) {done rest:List El} {x:El} (h:piecesE ts 4 s b=done++x::rest) :
  (IsW ts 4 s x∧¬ x.Great)∧IsW ts 4 s (dUp ts s a done)∧¬ (dUp ts s a done).Great:=by
 classical
 have hp:∀ p∈piecesE ts 4 s b,IsW ts 4 s p∧LeE ts 4 s p b:=fun p hp=>⟨(pieces_pc L wb hp).w,(pieces_le L wb wb).2 (LeE.refl L wb) p hp⟩
 have hx:=hp x (by rw [h];simp)
 have hd:∀ y∈done.filter fun p=>decide (¬ LeE ts 4 s p a),IsW ts 4 s y∧LeE ts 4 s y b:=fun y hy=>hp y (by rw [h];exact List.mem_append_left _ (List.mem_filter.1 hy).1)
 have wd:IsW ts 4 s (dUp ts s a done):=foldJ_W L fun y hy=>(hd y hy).1
 exact ⟨⟨hx.1,hx.2.small L hx.1 wb gb⟩,wd,(foldJ_le L (fun y hy=>(hd y hy).1) wb fun y hy=>(hd y hy).2).small L wd wb gb⟩
theorem elemDelta {Z:Zone} {cl ca cb:List Value} {l:Lat} {a b:El} {dd:Nat} (hl:LatR Z cl l) (ht:l.Th) (ha:ElR Z a ca) (hb:ElR Z b cb) (fa:a.Fit dd) (fb:b.Fit dd) :
  Cz M (.func (.func 41) #[] #[]) [.agg ⟨cl⟩,.agg ⟨ca⟩,.agg ⟨cb⟩] Z [] (fun v' Z' A'=>∃ cs,v'=.tuple ⟨[.agg ⟨cs⟩,.int .i64 (deltaR l a b).1]⟩∧ElR Z' (deltaR l a b).2 cs∧A'=[]):=by
 have hl0:=hl
 have ha0:=ha
 have hb0:=hb
 obtain ⟨l1,l2,l3,l4,rfl,hT,hS⟩:=hl.form
 obtain ⟨q1,q2,q3,q4,ua,rfl,ak,as_,aL⟩:=ha.form
 obtain ⟨r1,r2,r3,r4,ub,rfl,bk,bs_,bL⟩:=hb.form
 refine Cz.fn (f:=Tryz.f41) Ev.cM rfl rfl rfl _ rfl ?_
 repeat first|refine go ?_|with_reducible intro _
 rename_i b3 b4 b5 b6
 refine Wk.bs (cs:=[.int .u8 a.kind,.int .i64 a.n,.slice q1 a.keys.length q2,.slice q3 a.kids.length q4,.int .u8 b.kind,.int .i64 b.n,.slice r1 b.keys.length r2,.slice r3 b.kids.length r4]) rfl rfl rfl rfl rfl rfl rfl fun b9=>?_
 first|refine Wk.freezer Rem.head fun Z1 e1 h9=>?_|refine Wk.freeze Rem.head fun Z1 e1 h9=>?_
 repeat first|refine go ?_|with_reducible intro _
 refine Wk.call rfl rfl (Spl.none _) (open_E (hl0.mono e1) ht (ElsR_two (ha0.mono e1) (hb0.mono e1) h9) (by simp) (Fit2 fa fb)) rfl rfl rfl ?_
 rintro v' Z' A' hz ⟨⟨cs,rfl,hcl,hL1⟩,rfl,rfl⟩
 have hL0:=hL1
 obtain ⟨m1,m2,m3,m4,rfl,_,_⟩:=hL1.form
 repeat first|refine go ?_|with_reducible intro _
 rename_i b8
 refine Wk.cond rfl (fun hc=>?_) (fun hc=>?_)
 ·have hne:ElsE l [a,b]≠0:=by simpa using hc
  have hj:deltaR l a b=(ElsE l [a,b],El.bot):=by unfold deltaR;rw [if_pos hne]
  rw [hj]
  repeat first|refine go ?_|with_reducible intro _
  refine Wk.ret ⟨_,Rs.cell rfl rfl Ev.hM rfl rfl (Rs.tmp rfl Rs.nil),_,Sub.none _,_,rfl,ElR_bot _,rfl⟩
 ·have h0:ElsE l [a,b]=0:=by simpa using hc
  obtain ⟨hC,hw⟩:=ElsE_zero h0
  obtain ⟨T,sok⟩:=CSE_ok ht hC
  obtain ⟨wa,ga⟩:=hw a (by simp)
  obtain ⟨wb,gb⟩:=hw b (by simp)
  have hj:deltaR l a b=(0,deltaE l.1 4 l.2 a b):=by unfold deltaR;rw [if_neg (by simpa using h0)]
  rw [hj]
  clear hc
  apply Wk.freeze (b:=b3)
  case p=>repeat (first|exact Rem.head|apply Rem.tail)
  intro Z2 e2 h3
  apply Wk.freeze (b:=b4)
  case p=>repeat (first|exact Rem.head|apply Rem.tail)
  intro Z3 e3 h4
  apply Wk.freeze (b:=b5)
  case p=>repeat (first|exact Rem.head|apply Rem.tail)
  intro Z4 e4 h5
  apply Wk.freeze (b:=b8)
  case p=>repeat (first|exact Rem.head|apply Rem.tail)
  intro Z5 e5 h8
  have e25:=((e2.trans e3).trans e4).trans e5
  have e15:=e1.trans e25
  replace h3:=e5 _ _ (e4 _ _ (e3 _ _ h3))
  replace h4:=e5 _ _ (e4 _ _ h4)
  replace h5:=e5 _ _ h5
  repeat first|refine go ?_|with_reducible intro _
  refine Wk.call rfl rfl (Spl.none _) (pieces_e T 4 rfl (hL0.mono e25) (hS.mono e15) (hb0.mono e15) wb gb sok) rfl rfl rfl ?_
  rintro v26 Z6 A6 hz6 ⟨hY,rfl⟩
  repeat first|refine go ?_|with_reducible intro _
  refine rangeY (l:=piecesE l.1 4 l.2 b) (fun done Z' A'=>Ext Z6 Z'∧∃ x1 x2 x3 x4 x5 x6,A'=[pt b6 (.cells [.int .u8 x1,.int .i64 x2,.slice x3 (dUp l.1 l.2 a done).keys.length x4,.slice x5 (dUp l.1 l.2 a done).kids.length x6] true 0)]∧ElR Z' (dUp l.1 l.2 a done) [.int .u8 x1,.int .i64 x2,.slice x3 (dUp l.1 l.2 a done).keys.length x4,.slice x5 (dUp l.1 l.2 a done).kids.length x6]) (fun _ _ _=>rfl) rfl hY rfl (by simp) (fun done Z' Z'' A' hz ⟨h1,x1,x2,x3,x4,x5,x6,h2,h3⟩=>⟨h1.trans hz,x1,x2,x3,x4,x5,x6,h2,h3.mono hz⟩) ⟨Ext.refl _,_,_,_,_,_,_,rfl,ElR_bot _⟩ ?_ ?_
  ·rintro done x rest Z7 A7 cs q hsplit hz7 ⟨hz67,x1,x2,x3,x4,x5,x6,rfl,hout⟩ hx
   have hx0:=hx
   obtain ⟨⟨wx,gx⟩,wo,gout⟩:=dUp_ok (a:=a) T.lat wb gb hsplit
   obtain ⟨w1,w2,w3,w4,uw,rfl,_,_,_⟩:=hx.form
   repeat first|refine go ?_|with_reducible intro _
   rename_i b9'
   refine Wk.done ⟨rfl,_,.tail .head,?_⟩
   apply Wk.freeze (b:=b9')
   case p=>repeat (first|exact Rem.head|apply Rem.tail)
   intro Z70 e70 h9'
   replace hz67:=hz67.trans e70
   replace hout:=hout.mono e70
   replace hx0:=hx0.mono e70
   have e7:=hz6.trans hz67
   have e57:=e15.trans e7
   have h3':=e7 _ _ h3
   have h4':=e7 _ _ h4
   have h8':=e7 _ _ h8
   repeat first|refine go ?_|with_reducible intro _
   refine Wk.call rfl rfl (Spl.none _) (isBelow_e T 4 rfl (hL0.mono (e25.trans e7)) (hS.mono e57) hx0 (ha0.mono e57) wx wa gx ga sok) rfl rfl rfl ?_
   rintro v' Z' A' hz8 ⟨⟨r,rfl,hr⟩,rfl,rfl⟩
   repeat first|refine go ?_|with_reducible intro _
   refine Wk.cond rfl (fun hc=>?_) (fun hc=>?_)
   ·have hnle:¬ LeE l.1 4 l.2 x a:=fun h=>by rw [hr.2 h] at hc;cases hc
    repeat first|refine go ?_|with_reducible intro _
    refine Wk.call rfl rfl (Spl.none _) (join_e T 4 rfl (hL0.mono (e25.trans e7)) (hS.mono e57) hout hx0 wo wx gout gx sok) rfl rfl rfl ?_
    rintro v40 Z8 A8 hz9 ⟨cs',rfl,hR,rfl⟩
    rw [←dUp_no hnle] at hR
    obtain ⟨y1,y2,y3,y4,uy,rfl,_,_,_⟩:=hR.form
    repeat first|refine go ?_|with_reducible intro _
    refine Wk.done ⟨rfl,_,.head,?_⟩
    exact ⟨hz67.trans hz9,_,_,_,_,_,_,rfl,hR⟩
   ·have hle:LeE l.1 4 l.2 x a:=hr.1 (by simpa using hc)
    repeat first|refine go ?_|with_reducible intro _
    refine Wk.done ⟨rfl,_,.head,hz67,x1,x2,x3,x4,x5,x6,?_⟩
    rw [dUp_yes hle]
    exact ⟨rfl,hout⟩
  ·rintro Z7 A7 hz7 ⟨hz67,x1,x2,x3,x4,x5,x6,rfl,hout⟩
   rw [dUp_all] at hout
   repeat first|refine go ?_|with_reducible intro _
   refine Wk.ret ⟨_,Rs.cell rfl rfl Ev.hM rfl rfl (Rs.tmp rfl Rs.nil),_,Sub.none _,_,rfl,hout,rfl⟩
end Go.Proofs.J
namespace Go.Proofs.J
open Go.Ev Go
theorem flatMap_len {α β:Type} {l:List α} {f:α→List β} {B:Nat} (h:∀ x∈l,(f x).length≤B):(l.flatMap f).length≤l.length*B:=by
 induction l with
 | nil=>simp
 | cons x l ih =>
  rw [List.flatMap_cons,List.length_append,List.length_cons,Nat.add_mul,Nat.one_mul]
  have h1:=h x (by simp)
  have h2:=ih fun y hy=>h y (by simp [hy])
  omega
theorem pieces_len {ts:List Tbl} (T:TsOk ts):∀ {d:Nat} {s:Shp} {e:El},IsW ts d s e→¬ e.Great→s.Ok→(piecesE ts d s e).length≤40 ^ d
 | 0,s,e,w,_,_=>absurd w (by simp [IsW])
 | d+1,s,e,w,g,so=>by
  have h1:1≤40 ^ d:=Nat.pow_pos Ev.wM
  have h2:40 ^ (d+1)=40 ^ d*40:=Nat.pow_succ ..
  have sg:=small_iff.1 g
  rcases el_kinds w with hk|⟨k,t,m,ht,hm1,hm2,rfl⟩|⟨k,ks,hks,rfl⟩|hk
  ·rw [pieces_flat hk];simp only [List.length_cons,List.length_nil];omega
  ·rw [pieces_4,ht.eq,List.length_map]
   have h12:t.elems.length≤12:=(T.ok _ ht.mem).2.2.1
   have:(t.parts ((m:Int)).toNat).length≤t.elems.length:=by unfold Tbl.parts;exact Nat.le_trans (List.length_filter_le ..) (by simp)
   omega
  ·rw [pieces_5,List.length_map]
   have:ks.length≤40:=sg.1
   omega
  ·rw [pieces_kids so w hk]
   have hkl:e.kids.length≤40:=(w.few g).2.1
   have:((List.range e.kids.length).flatMap (kidP ts d s e)).length≤(List.range e.kids.length).length*40 ^ d:=by
    refine flatMap_len fun j hj=>?_
    have hj:j < e.kids.length:=List.mem_range.1 hj
    obtain ⟨hsl,hkw,_⟩:=kids_kind so w hk hj
    have hmod:j % s.kids.length < s.kids.length:=Nat.mod_lt _ hsl
    have hkid:e.kids[j]=e.kd j:=by simp [El.kd,hj]
    have hskid:s.kids[j % s.kids.length]=s.kid (j % s.kids.length):=(Shp.kid_eq (List.getElem?_eq_getElem hmod)).symm
    rw [kidP,List.length_map]
    exact pieces_len T hkw (by rw [←hkid];exact sg.2 _ (List.getElem_mem hj)) (by rw [←hskid];exact so.kids_.2 _ (List.getElem_mem hmod))
   rw [List.length_range] at this
   have h3:e.kids.length*40 ^ d≤40*40 ^ d:=Nat.mul_le_mul_right _ hkl
   omega
theorem pieces_len6 {ts:List Tbl} (T:TsOk ts) {d:Nat} {s:Shp} {e:El} (hd:d≤6) (w:IsW ts d s e) (g:¬ e.Great) (so:s.Ok):(piecesE ts d s e).length≤4096000000 :=
 Nat.le_trans (pieces_len T w g so) (Nat.pow_le_pow_right Ev.wM hd)
end Go.Proofs.J
namespace Go.Proofs.J
open Go.Ev Go
end Go.Proofs.J
