/- XX -/
import Derived.Test.YtlmmgebealakkaaGreatDoorHU
import Derived.Test.YtlmmgebealakkaaGreatDoorHK
import Derived.Test.YtlmmgebealakkaaGreatDoorWT
import Derived.Test.YtlmmgebealakkaaGreatDoorEvF
set_option linter.unusedVariables false
set_option linter.unusedSimpArgs false
set_option maxHeartbeats 4000000
set_option maxRecDepth 100000
namespace Go.Proofs.J
open Go.Ev Go
theorem kind3 {ts:List Tbl} {d:Nat} {s:Shp} {e:El} (w:IsW ts (d+1) s e) (h:e.kind=3):e≠El.bot∧s.kind=4:=by
 have nb:e≠El.bot:=fun q=>by subst q;simp [El.bot,El.kind] at h
 refine ⟨nb,?_⟩
 rcases w.kinds nb with k|k|k|k|k|k|k
 ·rw [w.inv1 nb k] at h;simp [El.kind] at h
 ·obtain ⟨m,hm,rfl⟩:=w.inv2 nb k;simp [El.kind] at h
 ·exact k
 ·obtain ⟨t,m,ht,h1,h2,rfl⟩:=w.inv5 nb k;simp [El.kind] at h
 ·obtain ⟨ks,hk2,rfl⟩:=w.inv3 nb k;simp [El.kind] at h
 ·obtain ⟨k0,ks,l,e0,hks,hl,hx,rfl⟩:=w.inv6 nb k;simp [El.kind] at h
 ·obtain ⟨k0,k1,x,y,e0,e1,hx,hy,hn,rfl⟩:=w.inv7 nb k;simp [El.kind] at h
theorem kind4 {ts:List Tbl} {d:Nat} {s:Shp} {e:El} (w:IsW ts (d+1) s e) (h:e.kind=4):e≠El.bot∧s.kind=5:=by
 have nb:e≠El.bot:=fun q=>by subst q;simp [El.bot,El.kind] at h
 refine ⟨nb,?_⟩
 rcases w.kinds nb with k|k|k|k|k|k|k
 ·rw [w.inv1 nb k] at h;simp [El.kind] at h
 ·obtain ⟨m,hm,rfl⟩:=w.inv2 nb k;simp [El.kind] at h
 ·rcases w.inv4 nb k with ⟨m,hm,rfl⟩|rfl<;>simp [El.kind] at h
 ·exact k
 ·obtain ⟨ks,hk2,rfl⟩:=w.inv3 nb k;simp [El.kind] at h
 ·obtain ⟨k0,ks,l,e0,hks,hl,hx,rfl⟩:=w.inv6 nb k;simp [El.kind] at h
 ·obtain ⟨k0,k1,x,y,e0,e1,hx,hy,hn,rfl⟩:=w.inv7 nb k;simp [El.kind] at h
theorem kindKid {ts:List Tbl} {d:Nat} {s:Shp} {e:El} (w:IsW ts (d+1) s e) {j:Nat} (hj:j < e.kids.length):e.kind≠1∧e.kind≠2∧e.kind≠3∧e.kind≠4∧e.kind≠5:=by
 have nb:e≠El.bot:=fun q=>by subst q;simp [El.bot,El.kids] at hj
 rcases w.kinds nb with k|k|k|k|k|k|k
 ·rw [w.inv1 nb k] at hj;simp [El.kids] at hj
 ·obtain ⟨m,hm,rfl⟩:=w.inv2 nb k;simp [El.kids] at hj
 ·rcases w.inv4 nb k with ⟨m,hm,rfl⟩|rfl<;>simp [El.kids] at hj
 ·obtain ⟨t,m,ht,h1,h2,rfl⟩:=w.inv5 nb k;simp [El.kids] at hj
 ·obtain ⟨ks,hk2,rfl⟩:=w.inv3 nb k;simp [El.kids] at hj
 ·obtain ⟨k0,ks,l,e0,hks,hl,hx,rfl⟩:=w.inv6 nb k;simp [El.kind]
 ·obtain ⟨k0,k1,x,y,e0,e1,hx,hy,hn,rfl⟩:=w.inv7 nb k;simp [El.kind]
theorem BadE_iff {ts:List Tbl} {d:Nat} {s:Shp} {e:El} (so:s.Ok) (w:IsW ts (d+1) s e) (h3:e.kind≠3) (h4:e.kind≠4):BadE ts (d+1) s e↔∃ j,∃ h:j < e.kids.length,BadE ts d (s.kid (j % s.kids.length)) e.kids[j]:=by
 by_cases nb:e=El.bot
 ·subst nb;simp [BadE,El.bot,El.kids]
 rcases w.kinds nb with k|k|k|k|k|k|k
 ·rw [w.inv1 nb k];simp [BadE,k,El.kids]
 ·obtain ⟨m,hm,rfl⟩:=w.inv2 nb k;simp [BadE,k,El.kids]
 ·rcases w.inv4 nb k with ⟨m,hm,rfl⟩|rfl
  ·simp [BadE,k,El.kids,El.kind]
  ·exact absurd rfl h3
 ·obtain ⟨t,m,ht,h1,h2,rfl⟩:=w.inv5 nb k;exact absurd rfl h4
 ·obtain ⟨ks,hk2,rfl⟩:=w.inv3 nb k;simp [BadE,k,El.kids]
 ·have hkl:s.kids.length=1:=by
   have:=so.kids_.1
   rw [k] at this
   simpa [kidsOf] using this.symm
  rw [BadE]
  constructor
  ·rintro ⟨_,q|⟨_,x,hx,g⟩|q|q⟩
   ·rw [k] at q;exact absurd q.1 (by decide)
   ·obtain ⟨i,hi,rfl⟩:=List.getElem_of_mem hx
    exact ⟨i,hi,by rw [hkl,Nat.mod_one];exact g⟩
   ·rw [k] at q;exact absurd q.1 (by decide)
   ·rw [k] at q;exact absurd q.1 (by decide)
  ·rintro ⟨j,hj,g⟩
   rw [hkl,Nat.mod_one] at g
   exact ⟨nb,.inr (.inl ⟨k,_,List.getElem_mem hj,g⟩)⟩
 ·have hkl:s.kids.length=2:=by
   have:=so.kids_.1
   rw [k] at this
   simpa [kidsOf] using this.symm
  obtain ⟨k0,k1,x,y,e0,e1,hx,hy,hn,rfl⟩:=w.inv7 nb k
  rw [BadE]
  constructor
  ·rintro ⟨_,q|q|⟨_,g|g⟩|q⟩
   ·rw [k] at q;exact absurd q.1 (by decide)
   ·rw [k] at q;exact absurd q.1 (by decide)
   ·exact ⟨0,by simp [El.kids],by rw [hkl];exact g⟩
   ·exact ⟨1,by simp [El.kids],by rw [hkl];exact g⟩
   ·rw [k] at q;exact absurd q.1 (by decide)
  ·rintro ⟨j,hj,g⟩
   have hj2:j < 2:=hj
   rw [hkl,Nat.mod_eq_of_lt hj2] at g
   refine ⟨nb,.inr (.inr (.inl ⟨k,?_⟩))⟩
   rcases (by omega:j=0∨j=1) with rfl|rfl
   ·exact .inl g
   ·exact .inr g
theorem wrong_at {t:Tbl} {m:Nat} (h:m < t.wrong.length):(t.wrong[m]=true)↔t.wr m:=by
 unfold Tbl.wr;rw [List.getElem?_eq_getElem h];simp
theorem isWrong_ {ts:List Tbl} (T:TsOk ts):∀ (d:Nat) {Z:Zone} {cl sc ce:List Value} {l:Lat} {s:Shp} {e:El},l.1=ts→LatR Z cl l→ShR Z s sc→ElR Z e ce→IsW ts d s e→e.Fit d→s.Ok →
  Cz M (.func (.func 61) #[] #[]) [.agg ⟨cl⟩,.agg ⟨sc⟩,.agg ⟨ce⟩] Z [] (fun v' Z' A'=>Bis v' (BadE ts d s e)∧Z=Z'∧A'=[])
 | 0,Z,cl,sc,ce,l,s,e,hts,hl,hs,he,w,f,so=>absurd w (by simp [IsW])
 | d+1,Z,cl,sc,ce,l,s,e,hts,hl,hs,he,w,f,so=>by
  have hl0:=hl
  have hs0:=hs
  have he0:=he
  have t1:=f.sm
  have l2:=t1.2.1
  obtain ⟨l1,l2',l3,l4,rfl,hT,_⟩:=hl.form
  obtain ⟨p1,p2,usk,rfl,hsk,hsL⟩:=hs.form
  obtain ⟨q1,q2,q3,q4,ue,rfl,ek,es,eL⟩:=he.form
  refine Cz.fn (f:=Tryz.f61) Ev.cM rfl rfl rfl _ rfl ?_
  repeat first|refine go ?_|with_reducible intro _
  rename_i b3 b4 b5
  refine Wk.cond rfl (fun hc=>?_) (fun hc=>?_)
  ·have h:e.kind=3:=by simpa using hc
   obtain ⟨nb,k⟩:=kind3 w h
   repeat first|refine go ?_|with_reducible intro _
   refine Wk.ret ⟨_,Rs.tmp rfl Rs.nil,_,Sub.none _,Bis.of (by simp only [true_iff];rw [BadE];exact ⟨nb,.inr (.inr (.inr ⟨k,h⟩))⟩),rfl,rfl⟩
  have h3:e.kind≠3:=by simpa using hc
  clear hc
  repeat first|refine go ?_|with_reducible intro _
  refine Wk.cond rfl (fun hc=>?_) (fun hc=>?_)
  ·have h:e.kind=4:=by simpa using hc
   obtain ⟨nb,k⟩:=kind4 w h
   obtain ⟨t,m,ht,hm1,hm2,rfl⟩:=w.inv5 nb k
   clear hc
   repeat first|refine go ?_|with_reducible intro _
   refine Wk.drawr (ms:=[0,0,3,7,0,16,63,127,255]) (l:=[0,1,4,5,2,3,6,7,8]) Ev.cM Ev.cM Ev.cM rfl ?_
   repeat first|refine go ?_|with_reducible intro _
   refine Wk.callD rfl rfl (Spl.none _) (table_ hl0 hs0 (by rw [hts];exact T.len) ⟨t,by rw [hts];exact ht.mem,by rcases ht with ⟨_,_,_,h,_⟩;exact h⟩) rfl rfl fun v59 Z9 A' hz9 hq=>?_
   obtain ⟨⟨t',nm,x1,m1,y1,x2,m2,y2,x3,m3,y3,rfl,ht',htb⟩,rfl,rfl⟩:=hq
   refine ⟨?_,?_⟩
   ·exact Ev.pM2
   rw [hts] at ht'
   obtain rfl:=ht'.uniq ht
   have hw:=htb.wrong
   obtain ⟨x9,y9,e9⟩:=hw.form
   cases e9
   have hlw:m < t'.wrong.length:=by have:=(T.ok _ ht.mem).2.2.2.2.1;omega
   repeat first|refine go ?_|with_reducible intro _
   refine Wk.ret ⟨_,Rs.tmp rfl Rs.nil,_,Sub.none _,Bis.of (by rw [wrong_at hlw,BadE,ht.eq];simp [k,nb,El.n]),rfl,rfl⟩
  have h4:e.kind≠4:=by simpa using hc
  clear hc
  have hbad:=BadE_iff so w h3 h4
  repeat first|refine go ?_|with_reducible intro _
  refine Wk.loop (fun mm L Z' A'=>∃ j:Nat,j≤e.kids.length∧mm=e.kids.length - j∧Z=Z'∧Sub A' [pt b5 (.cells [.int .u8 e.kind,.int .i64 e.n,.slice q1 e.keys.length q2,.slice q3 e.kids.length q4] true 0),pt b4 (.cells [.int .u8 s.kind,.string s.name,.slice p1 s.kids.length p2] true 0),pt b3 (.cells [.slice l1 l.1.length l2',.int .u8 l.2.kind,.string l.2.name,.slice l3 l.2.kids.length l4] true 0)]∧(∀ i,i < j→∀ h:i < e.kids.length,¬ BadE ts d (s.kid (i % s.kids.length)) e.kids[i])∧Kp L [(3,.pointer (some ⟨b3,0,none⟩)),(4,.pointer (some ⟨b4,0,none⟩)),(5,.pointer (some ⟨b5,0,none⟩)),(24,.slice q3 e.kids.length q4),(25,.int .i64 e.kids.length),(26,.int .i64 j)]) (e.kids.length) ⟨0,Nat.zero_le _,rfl,rfl,Ev.sM,fun i hi=>by omega,Ev.kM⟩ ?_
  rintro mm L Z' A' - ⟨j,hjj,rfl,rfl,hsub,invj,hk⟩
  refine Wk.drop hsub ?_
  refine Wk.kp hk ?_
  clear hk hsub
  repeat first|refine go ?_|with_reducible intro _
  refine Wk.cond rfl (fun hc=>?_) (fun hc=>?_)
  ·have hlt:j < e.kids.length:=by simp at hc;omega
   clear hc
   obtain ⟨hsl,hkw,hkk⟩:=kids_kind so w (kindKid w hlt) hlt
   have hmod:j % s.kids.length < s.kids.length:=Nat.mod_lt _ hsl
   have hle:s.kids.length≤2:=by
    have:=so.kids_.1
    unfold kidsOf at this
    repeat' split at this
    all_goals (first|(cases this;done)|(simp at this;omega))
   obtain ⟨k',n',x1,m1,y1,x2,m2,y2,gx,rrx⟩:=eL.get j hlt
   obtain ⟨ks',ns',a0,m0,c0,gs0,rs0⟩:=hsL.get (j % s.kids.length) hmod
   have hkid:e.kids[j]=e.kd j:=by simp [El.kd,hlt]
   have hskid:s.kids[j % s.kids.length]=s.kid (j % s.kids.length):=(Shp.kid_eq (List.getElem?_eq_getElem hmod)).symm
   have sok:(s.kid (j % s.kids.length)).Ok:=by rw [←hskid];exact so.kids_.2 _ (List.getElem_mem hmod)
   rw [hskid] at rs0
   rw [←hkid] at hkw
   repeat first|refine go ?_|with_reducible intro _
   refine Wk.drawr (ms:=[0,0,2,0,0,16,48,120,254,510,0,2047]) (l:=[0,1,2,3,4,5,6,7,8,9,10,11]) Ev.cM Ev.cM Ev.cM rfl ?_
   repeat first|refine go ?_|with_reducible intro _
   refine Wk.call rfl rfl (Spl.none _) (isWrong_ T d hts hl0 rs0 rrx hkw (f.kid hlt) sok) Ev.cM rfl rfl ?_
   rintro v' Z' A' hz ⟨⟨r,rfl,hr⟩,rfl,rfl⟩
   rw [hkid] at hr
   repeat first|refine go ?_|with_reducible intro _
   refine Wk.cond rfl (fun hc=>?_) (fun hc=>?_)
   ·have g:=hr.1 hc
    repeat first|refine go ?_|with_reducible intro _
    refine Wk.ret ⟨_,Rs.tmp rfl Rs.nil,_,Sub.none _,Bis.of (by simp only [true_iff];rw [hbad];exact ⟨j,hlt,by rw [hkid];exact g⟩),rfl,rfl⟩
   ·repeat first|refine go ?_|with_reducible intro _
    refine Wk.inv ⟨_,by omega,j+1,by omega,rfl,rfl,Ev.sM,(fun i hi hi2=>by
     by_cases q:i=j
     ·subst q;rw [hkid];intro g;rw [hr.2 g] at hc;cases hc
     ·exact invj i Ev.wM hi2),Ev.kM⟩
  ·have hjn:j=e.kids.length:=by simp at hc;omega
   subst hjn
   repeat first|refine go ?_|with_reducible intro _
   refine Wk.ret ⟨_,Rs.tmp rfl Rs.nil,_,Sub.none _,Bis.of (by simp only [Bool.false_eq_true,false_iff];rw [hbad];rintro ⟨i,hi,g⟩;exact invj i hi hi g),rfl,rfl⟩
theorem rBad_ {ts:List Tbl} (T:TsOk ts):∀ (d:Nat) {Z:Zone} {vt:Value} {sc ce:List Value} {s:Shp} {e:El},TbsR Z vt ts→ShR Z s sc→ElR Z e ce→IsW ts d s e→e.Fit d→s.Ok →
  Cz M (.func (.func 62) #[] #[]) [vt,.agg ⟨sc⟩,.agg ⟨ce⟩] Z [] (fun v' Z' A'=>Bis v' (BadE ts d s e)∧Z=Z'∧A'=[])
 | 0,Z,vt,sc,ce,s,e,hl,hs,he,w,f,so=>absurd w (by simp [IsW])
 | d+1,Z,vt,sc,ce,s,e,hl,hs,he,w,f,so=>by
  have hl0:=hl
  have hs0:=hs
  have he0:=he
  have t1:=f.sm
  have l2:=t1.2.1
  obtain ⟨l1,l2',rfl⟩:=hl.form
  obtain ⟨p1,p2,usk,rfl,hsk,hsL⟩:=hs.form
  obtain ⟨q1,q2,q3,q4,ue,rfl,ek,es,eL⟩:=he.form
  refine Cz.fn (f:=Tryz.f62) Ev.cM rfl rfl rfl _ rfl ?_
  repeat first|refine go ?_|with_reducible intro _
  rename_i b4 b5
  refine Wk.call rfl rfl (Spl.none _) (rIsBottom he0) rfl rfl rfl ?_
  rintro v' Z' A' hz ⟨⟨ba,rfl,hba⟩,rfl,rfl⟩
  repeat first|refine go ?_|with_reducible intro _
  refine Wk.cond rfl (fun hc=>?_) (fun hc=>?_)
  ·have e0:e=El.bot:=El.Bot_iff.1 (hba.1 hc)
   repeat first|refine go ?_|with_reducible intro _
   refine Wk.ret ⟨_,Rs.tmp rfl Rs.nil,_,Sub.none _,Bis.of (by rw [e0];simp [BadE]),rfl,rfl⟩
  have nb:e≠El.bot:=fun q=>by rw [hba.2 (El.Bot_iff.2 q)] at hc;cases hc
  clear hc
  rcases w.kinds nb with k|k|k|k|k|k|k<;>rw [k]
  ·have e0:=w.inv1 nb k
   repeat first|refine go ?_|with_reducible intro _
   refine Wk.ret ⟨_,Rs.tmp rfl Rs.nil,_,Sub.none _,Bis.of (by rw [e0];simp [BadE,k,El.kind]),rfl,rfl⟩
  ·obtain ⟨m,hm,e0⟩:=w.inv2 nb k
   repeat first|refine go ?_|with_reducible intro _
   refine Wk.ret ⟨_,Rs.tmp rfl Rs.nil,_,Sub.none _,Bis.of (by rw [e0];simp [BadE,k,El.kind]),rfl,rfl⟩
  ·repeat first|refine go ?_|with_reducible intro _
   refine Wk.ret ⟨_,Rs.tmp rfl Rs.nil,_,Sub.none _,Bis.of (by simp [BadE,k,nb]),rfl,rfl⟩
  ·obtain ⟨t,m,ht,hm1,hm2,rfl⟩:=w.inv5 nb k
   obtain ⟨i,hi,hti,hnm0,hfirst0⟩:=ht
   repeat first|refine go ?_|with_reducible intro _
   refine Wk.drawr (ms:=[0,0,0,4,14,31,63,127,0,256,1023,2047,4095]) (l:=[0,1,2,3,8,9,4,5,6,7,10,11,12]) Ev.cM Ev.cM Ev.cM rfl ?_
   repeat first|refine go ?_|with_reducible intro _
   refine Wk.callD rfl rfl (Spl.none _) (rNumber s.name hl0 T.len) rfl rfl fun v52 Z9 A' hz9 hq=>?_
   obtain ⟨⟨r,rfl,hr⟩,rfl,rfl⟩:=hq
   refine ⟨?_,?_⟩
   ·exact Ev.pM2
   rcases hr with ⟨i2,hi2,rfl,hnm,hfirst⟩|⟨rfl,hno⟩
   ·have ht2:Tof ts s.name ts[i2]:=⟨i2,hi2,rfl,hnm,hfirst⟩
    have ht:Tof ts s.name t:=⟨i,hi,hti,hnm0,hfirst0⟩
    obtain ⟨ust,hst,hrow⟩:=hl0
    obtain ⟨nm,x1,m1,y1,x2,m2,y2,x3,m3,y3,gt,htb⟩:=hrow i2 hi2
    rw [ht2.uniq ht] at htb
    have hw:=htb.wrong
    obtain ⟨x9,y9,e9⟩:=hw.form
    cases e9
    have hlw:m < t.wrong.length:=by have:=(T.ok _ ht.mem).2.2.2.2.1;omega
    repeat first|refine go ?_|with_reducible intro _
    rename_i bb off hp
    refine Wk.loadP rfl rfl hp rfl rfl rfl rfl ?_
    repeat first|refine go ?_|with_reducible intro _
    refine Wk.ret ⟨_,Rs.tmp rfl Rs.nil,_,Sub.none _,Bis.of (by rw [wrong_at hlw,BadE,ht.eq];simp [k,nb,El.n]),rfl,rfl⟩
   ·exfalso
    exact hno t (by rw [←hti];exact List.getElem_mem hi) hnm0
  ·obtain ⟨ks,hk2,e0⟩:=w.inv3 nb k
   repeat first|refine go ?_|with_reducible intro _
   refine Wk.ret ⟨_,Rs.tmp rfl Rs.nil,_,Sub.none _,Bis.of (by rw [e0];simp [BadE,k,El.kind]),rfl,rfl⟩
  ·have hkl:s.kids.length=1:=by
    have:=so.kids_.1
    rw [k] at this
    simpa [kidsOf] using this.symm
   have h3:e.kind≠3:=fun q=>by have:=(kind3 w q).2;omega
   have h4:e.kind≠4:=fun q=>by have:=(kind4 w q).2;omega
   have hbad:=BadE_iff so w h3 h4
   have h0:0 < s.kids.length:=by omega
   obtain ⟨ks',ns',a0,m0,c0,gs0,rs0⟩:=hsL.get 0 h0
   have hskid:s.kids[0]=s.kid 0:=(Shp.kid_eq (List.getElem?_eq_getElem h0)).symm
   have sok:(s.kid 0).Ok:=by rw [←hskid];exact so.kids_.2 _ (List.getElem_mem h0)
   rw [hskid] at rs0
   repeat first|refine go ?_|with_reducible intro _
   refine Wk.loop (fun mm L Z' A'=>∃ j:Nat,j≤e.kids.length∧mm=e.kids.length - j∧Z=Z'∧Sub A' [pt b5 (.cells [.int .u8 e.kind,.int .i64 e.n,.slice q1 e.keys.length q2,.slice q3 e.kids.length q4] true 0),pt b4 (.cells [.int .u8 6,.string s.name,.slice p1 s.kids.length p2] true 0)]∧(∀ i,i < j→∀ h:i < e.kids.length,¬ BadE ts d (s.kid 0) e.kids[i])∧Kp L [(0,.slice l1 ts.length l2'),(4,.pointer (some ⟨b4,0,none⟩)),(5,.pointer (some ⟨b5,0,none⟩)),(7,.int .i64 j),(11,.int .u8 6)]) (e.kids.length) ⟨0,Nat.zero_le _,rfl,rfl,Ev.sM,fun i hi=>by omega,Ev.kM⟩ ?_
   rintro mm L Z' A' - ⟨j,hjj,rfl,rfl,hsub,invj,hk⟩
   refine Wk.drop hsub ?_
   refine Wk.kp hk ?_
   clear hk hsub
   repeat first|refine go ?_|with_reducible intro _
   refine Wk.cond rfl (fun hc=>?_) (fun hc=>?_)
   ·have hlt:j < e.kids.length:=by simp at hc;omega
    clear hc
    obtain ⟨hsl,hkw,hkk⟩:=kids_kind so w (kindKid w hlt) hlt
    rw [hkl,Nat.mod_one] at hkw
    obtain ⟨k',n',x1,m1,y1,x2,m2,y2,gx,rrx⟩:=eL.get j hlt
    have hkid:e.kids[j]=e.kd j:=by simp [El.kd,hlt]
    rw [←hkid] at hkw
    repeat first|refine go ?_|with_reducible intro _
    refine Wk.drawr (ms:=[0,0,2,6,14,0,32,0,224,480,1023]) (l:=[0,1,2,3,4,5,6,7,8,9,10]) Ev.cM Ev.cM Ev.cM rfl ?_
    repeat first|refine go ?_|with_reducible intro _
    refine Wk.call rfl rfl (Spl.none _) (rBad_ T d hl0 rs0 rrx hkw (f.kid hlt) sok) Ev.cM rfl rfl ?_
    rintro v' Z' A' hz ⟨⟨r,rfl,hr⟩,rfl,rfl⟩
    repeat first|refine go ?_|with_reducible intro _
    refine Wk.cond rfl (fun hc=>?_) (fun hc=>?_)
    ·have g:=hr.1 hc
     repeat first|refine go ?_|with_reducible intro _
     refine Wk.ret ⟨_,Rs.tmp rfl Rs.nil,_,Sub.none _,Bis.of (by simp only [true_iff];rw [hbad];exact ⟨j,hlt,by rw [hkl,Nat.mod_one];exact g⟩),rfl,rfl⟩
    ·repeat first|refine go ?_|with_reducible intro _
     refine Wk.inv ⟨_,by omega,j+1,by omega,rfl,rfl,Ev.sM,(fun i hi hi2=>by
      by_cases q:i=j
      ·subst q;intro g;rw [hr.2 g] at hc;cases hc
      ·exact invj i Ev.wM hi2),Ev.kM⟩
   ·have hjn:j=e.kids.length:=by simp at hc;omega
    subst hjn
    repeat first|refine go ?_|with_reducible intro _
    refine Wk.ret ⟨_,Rs.tmp rfl Rs.nil,_,Sub.none _,Bis.of (by
     have hno:¬ BadE ts (d+1) s e:=by
      rw [hbad];rintro ⟨i,hi,g⟩
      rw [hkl,Nat.mod_one] at g
      exact invj i hi hi g
     simp [hno,h3]),rfl,rfl⟩
  ·have hkl:s.kids.length=2:=by
    have:=so.kids_.1
    rw [k] at this
    simpa [kidsOf] using this.symm
   have h3:e.kind≠3:=fun q=>by have:=(kind3 w q).2;omega
   have h4:e.kind≠4:=fun q=>by have:=(kind4 w q).2;omega
   have hbad:=BadE_iff so w h3 h4
   obtain ⟨k0,k1,x,y,e0,e1,hx,hy,hn,rfl⟩:=w.inv7 nb k
   have h0:0 < s.kids.length:=by omega
   have h1:1 < s.kids.length:=by omega
   obtain ⟨ks',ns',a0,m0,c0,gs0,rs0⟩:=hsL.get 0 h0
   obtain ⟨ks2,ns2,a2,m2,c2,gs2,rs2⟩:=hsL.get 1 h1
   obtain ⟨k',n',x1,m1,y1,x2,m3,y2,gx,rrx⟩:=eL.get 0 (by simp [El.kids])
   obtain ⟨k3,n3,x3,m4,y3,x4,m5,y4,gy,rry⟩:=eL.get 1 (by simp [El.kids])
   rw [show s.kids[0]=k0 by rw [List.getElem?_eq_getElem h0] at e0;exact Option.some.inj e0] at rs0
   rw [show s.kids[1]=k1 by rw [List.getElem?_eq_getElem h1] at e1;exact Option.some.inj e1] at rs2
   have so0:k0.Ok:=so.kids_.2 _ (List.mem_of_getElem? e0)
   have so1:k1.Ok:=so.kids_.2 _ (List.mem_of_getElem? e1)
   have g0:BadE ts (d+1) s (.mk 7 0 [] [x,y])↔BadE ts d k0 x∨BadE ts d k1 y:=by
    rw [hbad,hkl]
    constructor
    ·rintro ⟨j,hj,g⟩
     have hj2:j < 2:=hj
     rw [Nat.mod_eq_of_lt hj2] at g
     rcases (by omega:j=0∨j=1) with rfl|rfl
     ·left;rw [Shp.kid_eq e0] at g;exact g
     ·right;rw [Shp.kid_eq e1] at g;exact g
    ·rintro (g|g)
     ·exact ⟨0,by simp [El.kids],by rw [Nat.zero_mod,Shp.kid_eq e0];exact g⟩
     ·exact ⟨1,by simp [El.kids],by rw [show 1 % 2=1 from rfl,Shp.kid_eq e1];exact g⟩
   have hk0:0 < (El.mk 7 0 [] [x,y]).kids.length:=by simp [El.kids]
   have hk1:1 < (El.mk 7 0 [] [x,y]).kids.length:=by simp [El.kids]
   repeat first|refine go ?_|with_reducible intro _
   refine Wk.drawr (ms:=[0,0,2,6,14,0,32,96,224,511,1023,2047,2047,6143,14335,30719,2047,67583,198655,460799,1048575,2097151,4194303]) (l:=[0,1,2,3,4,5,6,7,8,9,10,11,12,13,14,15,16,17,18,19,20,21,22]) Ev.cM Ev.cM Ev.cM rfl ?_
   repeat first|refine go ?_|with_reducible intro _
   refine Wk.callD rfl rfl (Spl.none _) (rBad_ T d hl0 rs0 rrx hx (f.kid (i:=0) (by simp [El.kids])) so0) rfl rfl fun v52 Z9 A' hz9 hq=>?_
   obtain ⟨⟨r,rfl,hr⟩,rfl,rfl⟩:=hq
   refine ⟨?_,?_⟩
   ·exact Ev.pM2
   repeat first|refine go ?_|with_reducible intro _
   refine Wk.caser 58 rfl (fun hc=>?_) (fun hc=>?_)
   ·have g:=hr.1 hc
    repeat first|refine go ?_|with_reducible intro _
    refine Wk.ret ⟨_,Rs.tmp rfl Rs.nil,_,Sub.none _,Bis.of (by simp only [true_iff];rw [g0];exact .inl g),rfl,rfl⟩
   ·have g:¬ BadE ts d k0 x:=fun g=>by rw [hr.2 g] at hc;cases hc
    repeat first|refine go ?_|with_reducible intro _
    refine Wk.callD rfl rfl (Spl.none _) (rBad_ T d hl0 rs2 rry hy (f.kid (i:=1) (by simp [El.kids])) so1) rfl rfl fun v52 Z9 A' hz9 hq=>?_
    obtain ⟨⟨r2,rfl,hr2⟩,rfl,rfl⟩:=hq
    refine ⟨?_,?_⟩
    ·exact Ev.pM2
    repeat first|refine go ?_|with_reducible intro _
    refine Wk.ret ⟨_,Rs.tmp rfl Rs.nil,_,Sub.none _,Bis.of (by rw [hr2,g0];simp only [g,false_or];rfl),rfl,rfl⟩
end Go.Proofs.J
namespace Go.Proofs.J
open Go.Ev Go
theorem ElsE_dup (l:Lat) (e:El):ElsE l [e,e]=ElsE l [e]:=by
 unfold ElsE
 split
 ·rfl
 have:(∀ i (h:i < [e,e].length),IsE l.1 4 l.2 [e,e][i])↔∀ i (h:i < [e].length),IsE l.1 4 l.2 [e][i]:=by
  constructor
  ·intro q i h
   have:i=0:=by simpa using h
   subst this
   exact q 0 (by simp)
  ·intro q i h
   have:=q 0 (by simp)
   rcases (by simp at h;omega:i=0∨i=1) with rfl|rfl<;>exact this
 by_cases q:∀ i (h:i < [e].length),IsE l.1 4 l.2 [e][i]
 ·rw [if_pos q,if_pos (this.2 q)]
 ·rw [if_neg q,if_neg fun k=>q (this.1 k)]
theorem wrong1 {ts:List Tbl} (T:TsOk ts) {Z:Zone} {b3:Nat} {w0:Value} {cl ca cb:List Value} {l:Lat} {a b:El} {sc:List Value} (hts:l.1=ts) (h3:Z b3=some (.cells (w0::sc) true 0)) (hl:LatR Z cl l) (hs:ShR Z l.2 sc) (ha:ElR Z a ca) (hb:ElR Z b cb) (wa:IsW ts 4 l.2 a) (ga:¬ a.Great) (so:l.2.Ok) :
  Cz M (.func (.func 60) #[] ⟨[.pointer (some ⟨b3,0,none⟩)]⟩) [.agg ⟨cl⟩,.agg ⟨ca⟩,.agg ⟨cb⟩] Z [] (fun v' Z' A'=>Bis v' (BadE ts 4 l.2 a)∧Z=Z'∧A'=[]):=by
 have hl0:=hl
 have hs0:=hs
 have ha0:=ha
 have hb0:=hb
 obtain ⟨l1,l2,l3,l4,rfl,hT,_⟩:=hl.form
 obtain ⟨p1,p2,usk,rfl,hsk,hsL⟩:=hs.form
 obtain ⟨q1,q2,q3,q4,ua,rfl,ak,as_,aL⟩:=ha.form
 obtain ⟨r1,r2,r3,r4,ub,rfl,bk,bs_,bL⟩:=hb.form
 refine Cz.fn (f:=Tryz.f60) Ev.cM rfl rfl rfl _ rfl ?_
 repeat first|refine go ?_|with_reducible intro _
 refine Wk.call rfl rfl (Spl.none _) (isWrong_ T 4 hts hl0 hs0 ha0 wa (wa.fit T.ok ga) so) rfl rfl rfl ?_
 rintro v' Z' A' hz ⟨hb,rfl,rfl⟩
 repeat first|refine go ?_|with_reducible intro _
 refine Wk.ret ⟨_,Rs.tmp rfl Rs.nil,_,Sub.none _,hb,rfl,rfl⟩
theorem excl1 {ts:List Tbl} (T:TsOk ts) {Z:Zone} {b3:Nat} {w0:Value} {cl ca cb:List Value} {l:Lat} {a b:El} {sc:List Value} (hts:l.1=ts) (h3:Z b3=some (.cells (w0::sc) true 0)) (hl:LatR Z cl l) (hs:ShR Z l.2 sc) (ha:ElR Z a ca) (hb:ElR Z b cb) (wa:IsW ts 4 l.2 a) (wb:IsW ts 4 l.2 b) (ga:¬ a.Great) (gb:¬ b.Great) (so:l.2.Ok) :
  Cz M (.func (.func 74) #[] ⟨[.pointer (some ⟨b3,0,none⟩)]⟩) [.agg ⟨cl⟩,.agg ⟨ca⟩,.agg ⟨cb⟩] Z [] (fun v' Z' A'=>Bis v' (BadE ts 4 l.2 (joinE ts 4 l.2 a b))∧Z=Z'∧A'=[]):=by
 refine Cz.shrink ?_
 have hl0:=hl
 have hs0:=hs
 have ha0:=ha
 have hb0:=hb
 obtain ⟨l1,l2,l3,l4,rfl,hT,_⟩:=hl.form
 obtain ⟨p1,p2,usk,rfl,hsk,hsL⟩:=hs.form
 obtain ⟨q1,q2,q3,q4,ua,rfl,ak,as_,aL⟩:=ha.form
 obtain ⟨r1,r2,r3,r4,ub,rfl,bk,bs_,bL⟩:=hb.form
 refine Cz.fn (f:=Tryz.f74) Ev.cM rfl rfl rfl _ rfl ?_
 repeat first|refine go ?_|with_reducible intro _
 refine Wk.drawr (ms:=[0,0,2,0,0,16,0,0,248,511,1023]) (l:=[0,1,2,3,4,5,6,7,8,9,10]) Ev.cM Ev.cM Ev.cM rfl ?_
 repeat first|refine go ?_|with_reducible intro _
 refine Wk.callD rfl rfl (Spl.none _) (join_e T 4 hts hl0 hs0 ha0 hb0 wa wb ga gb so) rfl rfl fun v9 Z9 A' hz9 hq=>?_
 obtain ⟨cs,rfl,hR,rfl⟩:=hq
 have h3':=hz9 _ _ h3
 refine ⟨?_,?_⟩
 ·exact Ev.pM2
 repeat first|refine go ?_|with_reducible intro _
 refine Wk.callD rfl rfl (Spl.none _) (isWrong_ T 4 hts (hl0.mono hz9) (hs0.mono hz9) hR (joinE_W T.lat wa wb).1 (joinE_fit T wa wb ga gb) so) rfl rfl fun v9 Z8 A' hz8 hq=>?_
 obtain ⟨hb,rfl,rfl⟩:=hq
 refine ⟨?_,?_⟩
 ·exact Ev.pM2
 repeat first|refine go ?_|with_reducible intro _
 refine Wk.ret ⟨_,Rs.tmp rfl Rs.nil,_,Sub.none _,hb,rfl⟩
theorem elemIsWrong {Z:Zone} {cl ca:List Value} {l:Lat} {a:El} {dd:Nat} (hl:LatR Z cl l) (ht:l.Th) (ha:ElR Z a ca) (fa:a.Fit dd) :
  Cz M (.func (.func 20) #[] #[]) [.agg ⟨cl⟩,.agg ⟨ca⟩] Z [] (fun v' Z' A'=>(∃ r:Bool,v'=.tuple ⟨[.bool r,.int .i64 (ElsE l [a])]⟩∧(r=true↔ElsE l [a]=0∧BadE l.1 4 l.2 a))∧Z=Z'∧A'=[]):=by
 refine Cz.shrink ?_
 rw [←ElsE_dup]
 have hl0:=hl
 have ha0:=ha
 obtain ⟨l1,l2,l3,l4,rfl,hT,hS⟩:=hl.form
 obtain ⟨q1,q2,q3,q4,ua,rfl,ak,as_,aL⟩:=ha.form
 refine Cz.fn (f:=Tryz.f20) Ev.cM rfl rfl rfl _ rfl ?_
 repeat first|refine go ?_|with_reducible intro _
 rename_i b2 b3
 apply Wk.freezer (b:=b2)
 case p=>repeat (first|exact Rem.head|apply Rem.tail)
 intro Z1 e1 h3
 repeat first|refine go ?_|with_reducible intro _
 refine Wk.call rfl rfl (Spl.none _) (ask_ (p:=BadE l.1 4 l.2 a) (hl0.mono e1) ht (ha0.mono e1) (ha0.mono e1) fa fa (fun h0 {Z'} {cs} e hL=>by
  obtain ⟨hC,hw⟩:=ElsE_zero h0
  obtain ⟨T,sok⟩:=CSE_ok ht hC
  obtain ⟨wa,ga⟩:=hw a (by simp)
  exact wrong1 T rfl (e _ _ h3) hL (hS.mono (e1.trans e)) (ha0.mono (e1.trans e)) (ha0.mono (e1.trans e)) wa ga sok)) rfl rfl rfl ?_
 rintro v' Z' A' hz ⟨⟨r,rfl,hr⟩,rfl,rfl⟩
 repeat first|refine go ?_|with_reducible intro _
 refine Wk.ret ⟨_,Rs.tmp rfl (Rs.tmp rfl Rs.nil),_,Sub.none _,⟨r,rfl,hr⟩,rfl⟩
theorem elemExcludes {Z:Zone} {cl ca cb:List Value} {l:Lat} {a b:El} {dd:Nat} (hl:LatR Z cl l) (ht:l.Th) (ha:ElR Z a ca) (hb:ElR Z b cb) (fa:a.Fit dd) (fb:b.Fit dd) :
  Cz M (.func (.func 30) #[] #[]) [.agg ⟨cl⟩,.agg ⟨ca⟩,.agg ⟨cb⟩] Z [] (fun v' Z' A'=>(∃ r:Bool,v'=.tuple ⟨[.bool r,.int .i64 (ElsE l [a,b])]⟩∧(r=true↔ElsE l [a,b]=0∧BadE l.1 4 l.2 (joinE l.1 4 l.2 a b)))∧Z=Z'∧A'=[]):=by
 refine Cz.shrink ?_
 have hl0:=hl
 have ha0:=ha
 have hb0:=hb
 obtain ⟨l1,l2,l3,l4,rfl,hT,hS⟩:=hl.form
 obtain ⟨q1,q2,q3,q4,ua,rfl,ak,as_,aL⟩:=ha.form
 obtain ⟨r1,r2,r3,r4,ub,rfl,bk,bs_,bL⟩:=hb.form
 refine Cz.fn (f:=Tryz.f30) Ev.cM rfl rfl rfl _ rfl ?_
 repeat first|refine go ?_|with_reducible intro _
 rename_i b3 b4 b5
 apply Wk.freezer (b:=b3)
 case p=>repeat (first|exact Rem.head|apply Rem.tail)
 intro Z1 e1 h3
 repeat first|refine go ?_|with_reducible intro _
 refine Wk.call rfl rfl (Spl.none _) (ask_ (p:=BadE l.1 4 l.2 (joinE l.1 4 l.2 a b)) (hl0.mono e1) ht (ha0.mono e1) (hb0.mono e1) fa fb (fun h0 {Z'} {cs} e hL=>by
  obtain ⟨hC,hw⟩:=ElsE_zero h0
  obtain ⟨T,sok⟩:=CSE_ok ht hC
  obtain ⟨wa,ga⟩:=hw a (by simp)
  obtain ⟨wb,gb⟩:=hw b (by simp)
  exact excl1 T rfl (e _ _ h3) hL (hS.mono (e1.trans e)) (ha0.mono (e1.trans e)) (hb0.mono (e1.trans e)) wa wb ga gb sok)) rfl rfl rfl ?_
 rintro v' Z' A' hz ⟨⟨r,rfl,hr⟩,rfl,rfl⟩
 repeat first|refine go ?_|with_reducible intro _
 refine Wk.ret ⟨_,Rs.tmp rfl (Rs.tmp rfl Rs.nil),_,Sub.none _,⟨r,rfl,hr⟩,rfl⟩
theorem ElsR_one {Z:Zone} {b:Nat} {a:El} {ca:List Value} (ha:ElR Z a ca) (hb:Z b=some (.cells ca true 0)):ElsR Z (.slice (some ⟨b,0,none⟩) 1 1) [a]:=by
 have hL:=ElRL.snoc ha (l:=[]) (us:=[]) (by simp [ElRL])
 have hl:=hL.length
 refine ⟨_,.inr ⟨b,0,1,_,_,_,rfl,Nat.le_refl _,hb,?_,.inl rfl⟩,hL⟩
 unfold getCells
 simp only [List.nil_append,List.length_append,List.length_cons,List.length_nil] at hl
 rw [if_pos (by simp;omega)]
 rw [List.drop_zero,List.take_of_length_le (by simp;omega)]
 simp
theorem Fit1 {a:El} {d:Nat} (fa:a.Fit d):∀ i (h:i < [a].length),([a][i]).Fit d:=by
 intro i h
 have:i=0:=by simpa using h
 subst this
 exact fa
theorem rElemIsWrong {Z:Zone} {cl ca:List Value} {l:Lat} {a:El} {dd:Nat} (hl:LatR Z cl l) (ht:l.Th) (ha:ElR Z a ca) (fa:a.Fit dd) :
  Cz M (.func (.func 21) #[] #[]) [.agg ⟨cl⟩,.agg ⟨ca⟩] Z [] (fun v' Z' A'=>(∃ r:Bool,v'=.tuple ⟨[.bool r,.int .i64 (ElsE l [a])]⟩∧(r=true↔ElsE l [a]=0∧BadE l.1 4 l.2 a))∧Z=Z'∧A'=[]):=by
 refine Cz.shrink ?_
 have hl0:=hl
 have ha0:=ha
 obtain ⟨l1,l2,l3,l4,rfl,hT,hS⟩:=hl.form
 obtain ⟨q1,q2,q3,q4,ua,rfl,ak,as_,aL⟩:=ha.form
 refine Cz.fn (f:=Tryz.f21) Ev.cM rfl rfl rfl _ rfl ?_
 repeat first|refine go ?_|with_reducible intro _
 refine Wk.bs (cs:=[.int .u8 a.kind,.int .i64 a.n,.slice q1 a.keys.length q2,.slice q3 a.kids.length q4]) rfl rfl rfl rfl rfl rfl rfl fun b9=>?_
 first|refine Wk.freezer Rem.head fun Z1 e1 h9=>?_|refine Wk.freeze Rem.head fun Z1 e1 h9=>?_
 repeat first|refine go ?_|with_reducible intro _
 refine Wk.call rfl rfl (Spl.none _) (rCheckEls (hl0.mono e1) ht (ElsR_one (ha0.mono e1) h9) (by simp) (Fit1 fa)) rfl rfl rfl ?_
 rintro v' Z' A' hz ⟨rfl,rfl,rfl⟩
 repeat first|refine go ?_|with_reducible intro _
 refine Wk.cond rfl (fun hc=>?_) (fun hc=>?_)
 ·have hne:¬ ElsE l [a]=0:=by simpa using hc
  repeat first|refine go ?_|with_reducible intro _
  refine Wk.ret ⟨_,Rs.tmp rfl (Rs.tmp rfl Rs.nil),_,Sub.none _,⟨false,rfl,by simp [hne]⟩,rfl⟩
 ·have h0:ElsE l [a]=0:=by simpa using hc
  obtain ⟨hC,hw⟩:=ElsE_zero h0
  obtain ⟨T,sok⟩:=CSE_ok ht hC
  obtain ⟨wa,ga⟩:=hw a (by simp)
  repeat first|refine go ?_|with_reducible intro _
  refine Wk.call rfl rfl (Spl.none _) (rBad_ T 4 (hT.mono e1) (hS.mono e1) (ha0.mono e1) wa (wa.fit T.ok ga) sok) rfl rfl rfl ?_
  rintro v' Z' A' hz ⟨⟨r,rfl,hr⟩,rfl,rfl⟩
  repeat first|refine go ?_|with_reducible intro _
  refine Wk.ret ⟨_,Rs.tmp rfl (Rs.tmp rfl Rs.nil),_,Sub.none _,⟨r,by rw [h0];rfl,by simp [hr,h0]⟩,rfl⟩
theorem rElemExcludes {Z:Zone} {cl ca cb:List Value} {l:Lat} {a b:El} {dd:Nat} (hl:LatR Z cl l) (ht:l.Th) (ha:ElR Z a ca) (hb:ElR Z b cb) (fa:a.Fit dd) (fb:b.Fit dd) :
  Cz M (.func (.func 33) #[] #[]) [.agg ⟨cl⟩,.agg ⟨ca⟩,.agg ⟨cb⟩] Z [] (fun v' Z' A'=>(∃ r:Bool,v'=.tuple ⟨[.bool r,.int .i64 (ElsE l [a,b])]⟩∧(r=true↔ElsE l [a,b]=0∧BadE l.1 4 l.2 (joinE l.1 4 l.2 a b)))∧Z=Z'∧A'=[]):=by
 refine Cz.shrink ?_
 have hl0:=hl
 have ha0:=ha
 have hb0:=hb
 obtain ⟨l1,l2,l3,l4,rfl,hT,hS⟩:=hl.form
 obtain ⟨q1,q2,q3,q4,ua,rfl,ak,as_,aL⟩:=ha.form
 obtain ⟨r1,r2,r3,r4,ub,rfl,bk,bs_,bL⟩:=hb.form
 refine Cz.fn (f:=Tryz.f33) Ev.cM rfl rfl rfl _ rfl ?_
 repeat first|refine go ?_|with_reducible intro _
 refine Wk.bs (cs:=[.int .u8 a.kind,.int .i64 a.n,.slice q1 a.keys.length q2,.slice q3 a.kids.length q4,.int .u8 b.kind,.int .i64 b.n,.slice r1 b.keys.length r2,.slice r3 b.kids.length r4]) rfl rfl rfl rfl rfl rfl rfl fun b9=>?_
 first|refine Wk.freezer Rem.head fun Z1 e1 h9=>?_|refine Wk.freeze Rem.head fun Z1 e1 h9=>?_
 repeat first|refine go ?_|with_reducible intro _
 refine Wk.call rfl rfl (Spl.none _) (rCheckEls (hl0.mono e1) ht (ElsR_two (ha0.mono e1) (hb0.mono e1) h9) (by simp) (Fit2 fa fb)) rfl rfl rfl ?_
 rintro v' Z' A' hz ⟨rfl,rfl,rfl⟩
 repeat first|refine go ?_|with_reducible intro _
 refine Wk.cond rfl (fun hc=>?_) (fun hc=>?_)
 ·have hne:¬ ElsE l [a,b]=0:=by simpa using hc
  repeat first|refine go ?_|with_reducible intro _
  refine Wk.ret ⟨_,Rs.tmp rfl (Rs.tmp rfl Rs.nil),_,Sub.none _,⟨false,rfl,by simp [hne]⟩,rfl⟩
 ·have h0:ElsE l [a,b]=0:=by simpa using hc
  obtain ⟨hC,hw⟩:=ElsE_zero h0
  obtain ⟨T,sok⟩:=CSE_ok ht hC
  obtain ⟨wa,ga⟩:=hw a (by simp)
  obtain ⟨wb,gb⟩:=hw b (by simp)
  repeat first|refine go ?_|with_reducible intro _
  refine Wk.drawr (ms:=[0,1,0,4,0,16,0,64,0,0,1008,2047,4095,8191]) (l:=[0,1,2,3,4,5,6,7,8,9,10,11,12,13]) Ev.cM Ev.cM Ev.cM rfl ?_
  repeat first|refine go ?_|with_reducible intro _
  refine Wk.callD rfl rfl (Spl.none _) (rJoinOf T 4 (hT.mono e1) (hS.mono e1) (ha0.mono e1) (hb0.mono e1) wa wb ga gb sok) rfl rfl fun v9 Z9 A' hz9 hq=>?_
  obtain ⟨cs,rfl,hR,rfl⟩:=hq
  refine ⟨?_,?_⟩
  ·exact Ev.pM2
  repeat first|refine go ?_|with_reducible intro _
  refine Wk.callD rfl rfl (Spl.none _) (rBad_ T 4 ((hT.mono e1).mono hz9) ((hS.mono e1).mono hz9) hR (joinE_W T.lat wa wb).1 (joinE_fit T wa wb ga gb) sok) rfl rfl fun v9 Z8 A' hz8 hq=>?_
  obtain ⟨⟨r,rfl,hr⟩,rfl,rfl⟩:=hq
  refine ⟨?_,?_⟩
  ·exact Ev.pM2
  repeat first|refine go ?_|with_reducible intro _
  refine Wk.ret ⟨_,Rs.tmp rfl (Rs.tmp rfl Rs.nil),_,Sub.none _,⟨r,by rw [h0];rfl,by simp [hr,h0]⟩,rfl⟩
end Go.Proofs.J
namespace Go.Proofs.J
open Go.Ev Go
theorem sameShape1:∀ (d:Nat) {s:Shp} {Z:Zone} {cs ct:List Value},Shp.Thin d s→ShR Z s cs→ShR Z s ct →
  Cz M (.func (.func 65) #[] #[]) [.agg ⟨cs⟩,.agg ⟨ct⟩] Z [] (fun v' Z' A'=>v'=.bool true∧Z=Z'∧A'=[])
 | 0,s,Z,cs,ct,ht,h,k=>ht.elim
 | d+1,s,Z,cs,ct,ht,h,k=>by
  obtain ⟨a,c,us,rfl,hs,hL⟩:=h.form
  obtain ⟨a',c',us',rfl,hs',hL'⟩:=k.form
  obtain ⟨t1,t2,t3⟩:=ht
  refine Cz.fn (f:=Tryz.f65) Ev.cM rfl rfl rfl _ rfl ?_
  repeat first|refine go ?_|with_reducible intro _
  rename_i b2 b3
  refine Wk.caser 11 rfl (fun hc=>absurd hc (by simp)) (fun hc=>?_)
  clear hc
  repeat first|refine go ?_|with_reducible intro _
  refine Wk.caser 18 rfl (fun hc=>absurd hc (by simp)) (fun hc=>?_)
  clear hc
  repeat first|refine go ?_|with_reducible intro _
  refine Wk.cond rfl (fun hc=>absurd hc (by simp)) (fun hc=>?_)
  clear hc
  repeat first|refine go ?_|with_reducible intro _
  refine Wk.loop (fun mm L Z' A'=>∃ j:Nat,j≤s.kids.length∧mm=s.kids.length - j∧Z=Z'∧Sub A' [pt b3 (.cells [.int .u8 s.kind,.string s.name,.slice a' s.kids.length c'] true 0),pt b2 (.cells [.int .u8 s.kind,.string s.name,.slice a s.kids.length c] true 0)]∧(True)∧Kp L [(2,.pointer (some ⟨b2,0,none⟩)),(3,.pointer (some ⟨b3,0,none⟩)),(5,.int .i64 j)]) (s.kids.length) ⟨0,Nat.zero_le _,rfl,rfl,Ev.sM,trivial,Ev.kM⟩ ?_
  rintro mm L Z' A' - ⟨j,hjj,rfl,rfl,hsub,invj,hk⟩
  refine Wk.drop hsub ?_
  refine Wk.kp hk ?_
  clear hk hsub
  repeat first|refine go ?_|with_reducible intro _
  refine Wk.cond rfl (fun hc=>?_) (fun hc=>?_)
  ·have hlt:j < s.kids.length:=by simp at hc;omega
   clear hc
   obtain ⟨k1,n1,x1,m1,y1,g1,r1⟩:=hL.get j hlt
   obtain ⟨k2,n2,x2,m2,y2,g2,r2⟩:=hL'.get j hlt
   repeat first|refine go ?_|with_reducible intro _
   refine Wk.drawr (ms:=[0,1,0,7,15,0,32,0,224,480,1023,2047]) (l:=[0,1,2,3,4,5,6,7,8,9,10,11]) Ev.cM Ev.cM Ev.cM rfl ?_
   repeat first|refine go ?_|with_reducible intro _
   refine Wk.call rfl rfl (Spl.none _) (sameShape1 d (t3 _ (List.getElem_mem hlt)) r1 r2) Ev.cM rfl rfl ?_
   rintro v' Z' A' hz ⟨rfl,rfl,rfl⟩
   repeat first|refine go ?_|with_reducible intro _
   refine Wk.inv ⟨_,by omega,j+1,by omega,rfl,rfl,Ev.sM,(trivial),Ev.kM⟩
  ·repeat first|refine go ?_|with_reducible intro _
   refine Wk.ret ⟨_,Rs.tmp rfl Rs.nil,_,Sub.none _,rfl,rfl,rfl⟩
theorem sameTable1 {Z:Zone} {nm nm':ByteArray} {a1 a2 a3 b1 b2 b3:Option Addr} {m1 c1 m2 c2 m3 c3 n1 d1 n2 d2 n3 d3:Nat} {t:Tbl} (h:TbR Z nm (.slice a1 m1 c1) (.slice a2 m2 c2) (.slice a3 m3 c3) t) (k:TbR Z nm' (.slice b1 n1 d1) (.slice b2 n2 d2) (.slice b3 n3 d3) t) (ht:t.Th) :
  Cz M (.func (.func 66) #[] #[]) [.agg ⟨[.string nm,.slice a1 m1 c1,.slice a2 m2 c2,.slice a3 m3 c3]⟩,.agg ⟨[.string nm',.slice b1 n1 d1,.slice b2 n2 d2,.slice b3 n3 d3]⟩] Z [] (fun v' Z' A'=>v'=.bool true∧Z=Z'∧A'=[]):=by
 obtain rfl:=h.name
 obtain rfl:=k.name
 have se:=h.elems
 have sw:=h.wrong
 obtain ⟨us,sa,ra⟩:=h.above
 obtain ⟨ae,ce,ee⟩:=se.form
 obtain ⟨aw,cw,ew⟩:=sw.form
 obtain ⟨ab,cb,eb⟩:=sa.form
 cases ee;cases ew;cases eb
 have se':=k.elems
 have sw':=k.wrong
 obtain ⟨us',sa',ra'⟩:=k.above
 obtain ⟨ae',ce',ee'⟩:=se'.form
 obtain ⟨aw',cw',ew'⟩:=sw'.form
 obtain ⟨ab',cb',eb'⟩:=sa'.form
 cases ee';cases ew';cases eb'
 have l1:=ht.elems
 have l2:=ht.above
 have l3:=ht.wrong
 refine Cz.fn (f:=Tryz.f66) Ev.cM rfl rfl rfl _ rfl ?_
 repeat first|refine go ?_|with_reducible intro _
 rename_i x2 x3
 refine Wk.caser 13 rfl (fun hc=>absurd hc (by simp)) (fun hc=>?_)
 clear hc
 repeat first|refine go ?_|with_reducible intro _
 refine Wk.caser 22 rfl (fun hc=>absurd hc (by simp)) (fun hc=>?_)
 clear hc
 repeat first|refine go ?_|with_reducible intro _
 refine Wk.caser 31 rfl (fun hc=>absurd hc (by simp)) (fun hc=>?_)
 clear hc
 repeat first|refine go ?_|with_reducible intro _
 refine Wk.cond rfl (fun hc=>absurd hc (by simp)) (fun hc=>?_)
 clear hc
 repeat first|refine go ?_|with_reducible intro _
 refine Wk.loop (fun mm L Z' A'=>∃ j:Nat,j≤t.elems.length∧mm=t.elems.length - j∧Z=Z'∧Sub A' [pt x3 (.cells [.string t.name,.slice b1 t.elems.length d1,.slice b2 t.above.length d2,.slice b3 t.wrong.length d3] true 0),pt x2 (.cells [.string t.name,.slice a1 t.elems.length c1,.slice a2 t.above.length c2,.slice a3 t.wrong.length c3] true 0)]∧(True)∧Kp L [(2,.pointer (some ⟨x2,0,none⟩)),(3,.pointer (some ⟨x3,0,none⟩)),(5,.int .i64 j)]) (t.elems.length) ⟨0,Nat.zero_le _,rfl,rfl,Ev.sM,trivial,Ev.kM⟩ ?_
 rintro mm L Z' A' - ⟨j,hjj,rfl,rfl,hsub,invj,hk⟩
 refine Wk.drop hsub ?_
 refine Wk.kp hk ?_
 clear hk hsub
 repeat first|refine go ?_|with_reducible intro _
 refine Wk.cond rfl (fun hc=>?_) (fun hc=>?_)
 ·have hlt:j < t.elems.length:=by simp at hc;omega
  clear hc
  have g1:getCells (t.elems.map Value.string) (j*1) 1=some [.string t.elems[j]]:=getCells_map hlt
  repeat first|refine go ?_|with_reducible intro _
  refine Wk.drawr (ms:=[0,1,0,7,15,0,32,0,224,480,1023]) (l:=[0,1,2,3,4,5,6,7,8,9,10]) Ev.cM Ev.cM Ev.cM rfl ?_
  repeat first|refine go ?_|with_reducible intro _
  refine Wk.cond rfl (fun hc=>absurd hc (by simp)) (fun hc=>?_)
  clear hc
  repeat first|refine go ?_|with_reducible intro _
  refine Wk.inv ⟨_,by omega,j+1,by omega,rfl,rfl,Ev.sM,(trivial),Ev.kM⟩
 clear hc
 repeat first|refine go ?_|with_reducible intro _
 refine Wk.loop (fun mm L Z' A'=>∃ j:Nat,j≤t.above.length∧mm=t.above.length - j∧Z=Z'∧Sub A' [pt x3 (.cells [.string t.name,.slice b1 t.elems.length d1,.slice b2 t.above.length d2,.slice b3 t.wrong.length d3] true 0),pt x2 (.cells [.string t.name,.slice a1 t.elems.length c1,.slice a2 t.above.length c2,.slice a3 t.wrong.length c3] true 0)]∧(True)∧Kp L [(2,.pointer (some ⟨x2,0,none⟩)),(3,.pointer (some ⟨x3,0,none⟩)),(6,.int .i64 j)]) (t.above.length) ⟨0,Nat.zero_le _,rfl,rfl,Ev.sM,trivial,Ev.kM⟩ ?_
 rintro mm L Z' A' - ⟨j,hjj,rfl,rfl,hsub,invj,hk⟩
 refine Wk.drop hsub ?_
 refine Wk.kp hk ?_
 clear hk hsub
 repeat first|refine go ?_|with_reducible intro _
 refine Wk.cond rfl (fun hc=>?_) (fun hc=>?_)
 ·have hlt:j < t.above.length:=by simp at hc;omega
  clear hc
  obtain ⟨u,ua,su⟩:=ra j hlt
  obtain ⟨u',ua',su'⟩:=ra' j hlt
  have g1:getCells us (j*1) 1=some [u]:=getCells_one (by rw [Nat.mul_one];exact ua)
  have g2:getCells us' (j*1) 1=some [u']:=getCells_one (by rw [Nat.mul_one];exact ua')
  have hr:=ht.rows j hlt
  obtain ⟨y1,z1,rfl⟩:=su.form
  obtain ⟨y2,z2,rfl⟩:=su'.form
  repeat first|refine go ?_|with_reducible intro _
  refine Wk.drawr (ms:=[0,1,0,7,15,0,32,0,224,480,1023,2047]) (l:=[0,1,2,3,4,5,6,7,8,9,10,11]) Ev.cM Ev.cM Ev.cM rfl ?_
  repeat first|refine go ?_|with_reducible intro _
  refine Wk.call rfl rfl (Spl.none _) (sameInts su su' Ev.wM) Ev.cM rfl rfl ?_
  rintro v' Z' A' hz ⟨⟨r,rfl,hr⟩,rfl,rfl⟩
  have e1:r=true:=hr.2 rfl
  subst e1
  repeat first|refine go ?_|with_reducible intro _
  refine Wk.inv ⟨_,by omega,j+1,by omega,rfl,rfl,Ev.sM,(trivial),Ev.kM⟩
 clear hc
 repeat first|refine go ?_|with_reducible intro _
 refine Wk.loop (fun mm L Z' A'=>∃ j:Nat,j≤t.wrong.length∧mm=t.wrong.length - j∧Z=Z'∧Sub A' [pt x3 (.cells [.string t.name,.slice b1 t.elems.length d1,.slice b2 t.above.length d2,.slice b3 t.wrong.length d3] true 0),pt x2 (.cells [.string t.name,.slice a1 t.elems.length c1,.slice a2 t.above.length c2,.slice a3 t.wrong.length c3] true 0)]∧(True)∧Kp L [(2,.pointer (some ⟨x2,0,none⟩)),(3,.pointer (some ⟨x3,0,none⟩)),(7,.int .i64 j)]) (t.wrong.length) ⟨0,Nat.zero_le _,rfl,rfl,Ev.sM,trivial,Ev.kM⟩ ?_
 rintro mm L Z' A' - ⟨j,hjj,rfl,rfl,hsub,invj,hk⟩
 refine Wk.drop hsub ?_
 refine Wk.kp hk ?_
 clear hk hsub
 repeat first|refine go ?_|with_reducible intro _
 refine Wk.cond rfl (fun hc=>?_) (fun hc=>?_)
 ·have hlt:j < t.wrong.length:=by simp at hc;omega
  clear hc
  have g1:getCells (t.wrong.map Value.bool) (j*1) 1=some [.bool t.wrong[j]]:=getCells_map hlt
  repeat first|refine go ?_|with_reducible intro _
  refine Wk.drawr (ms:=[0,1,0,7,15,0,32,0,224,480,1023]) (l:=[0,1,2,3,4,5,6,7,8,9,10]) Ev.cM Ev.cM Ev.cM rfl ?_
  repeat first|refine go ?_|with_reducible intro _
  refine Wk.cond rfl (fun hc=>absurd hc (by simp)) (fun hc=>?_)
  clear hc
  repeat first|refine go ?_|with_reducible intro _
  refine Wk.inv ⟨_,by omega,j+1,by omega,rfl,rfl,Ev.sM,(trivial),Ev.kM⟩
 repeat first|refine go ?_|with_reducible intro _
 refine Wk.ret ⟨_,Rs.tmp rfl Rs.nil,_,Sub.none _,rfl,rfl,rfl⟩
theorem sameLat1 {Z:Zone} {cs ct:List Value} {l:Lat} (h:LatR Z cs l) (k:LatR Z ct l) (ht:l.Th) :
  Cz M (.func (.func 23) #[] #[]) [.agg ⟨cs⟩,.agg ⟨ct⟩] Z [] (fun v' Z' A'=>v'=.bool true∧Z=Z'∧A'=[]):=by
 obtain ⟨a1,c1,a2,c2,rfl,hT,hS⟩:=h.form
 obtain ⟨b1,d1,b2,d2,rfl,kT,kS⟩:=k.form
 obtain ⟨us,hs,hrow⟩:=hT
 obtain ⟨us',ks,krow⟩:=kT
 have hfew:=ht.few.2
 refine Cz.fn (f:=Tryz.f23) Ev.cM rfl rfl rfl _ rfl ?_
 repeat first|refine go ?_|with_reducible intro _
 rename_i x2 x3
 refine Wk.caser 13 rfl (fun hc=>absurd hc (by simp)) (fun hc=>?_)
 clear hc
 repeat first|refine go ?_|with_reducible intro _
 refine Wk.call rfl rfl (Spl.none _) (sameShape1 6 ht.shape hS kS) Ev.cM rfl rfl ?_
 rintro v' Z' A' hz ⟨rfl,rfl,rfl⟩
 repeat first|refine go ?_|with_reducible intro _
 refine Wk.loop (fun mm L Z' A'=>∃ j:Nat,j≤l.1.length∧mm=l.1.length - j∧Z=Z'∧Sub A' [pt x3 (.cells [.slice b1 l.1.length d1,.int .u8 l.2.kind,.string l.2.name,.slice b2 l.2.kids.length d2] true 0),pt x2 (.cells [.slice a1 l.1.length c1,.int .u8 l.2.kind,.string l.2.name,.slice a2 l.2.kids.length c2] true 0)]∧(True)∧Kp L [(2,.pointer (some ⟨x2,0,none⟩)),(3,.pointer (some ⟨x3,0,none⟩)),(5,.int .i64 j)]) (l.1.length) ⟨0,Nat.zero_le _,rfl,rfl,Ev.sM,trivial,Ev.kM⟩ ?_
 rintro mm L Z' A' - ⟨j,hjj,rfl,rfl,hsub,invj,hk⟩
 refine Wk.drop hsub ?_
 refine Wk.kp hk ?_
 clear hk hsub
 repeat first|refine go ?_|with_reducible intro _
 refine Wk.cond rfl (fun hc=>?_) (fun hc=>?_)
 ·have hlt:j < l.1.length:=by simp at hc;omega
  clear hc
  obtain ⟨nm,y1,m1,z1,y2,m2,z2,y3,m3,z3,g1,r1⟩:=hrow j hlt
  obtain ⟨nm',y1',m1',z1',y2',m2',z2',y3',m3',z3',g2,r2⟩:=krow j hlt
  repeat first|refine go ?_|with_reducible intro _
  refine Wk.drawr (ms:=[0,1,0,7,15,0,32,0,224,480,1023,2047]) (l:=[0,1,2,3,4,5,6,7,8,9,10,11]) Ev.cM Ev.cM Ev.cM rfl ?_
  repeat first|refine go ?_|with_reducible intro _
  refine Wk.call rfl rfl (Spl.none _) (sameTable1 r1 r2 (ht.tables j hlt)) Ev.cM rfl rfl ?_
  rintro v' Z' A' hz ⟨rfl,rfl,rfl⟩
  repeat first|refine go ?_|with_reducible intro _
  refine Wk.inv ⟨_,by omega,j+1,by omega,rfl,rfl,Ev.sM,(trivial),Ev.kM⟩
 ·repeat first|refine go ?_|with_reducible intro _
  refine Wk.ret ⟨_,Rs.tmp rfl Rs.nil,_,Sub.none _,rfl,rfl,rfl⟩
end Go.Proofs.J
namespace Go.Proofs.J
open Go.Ev Go
theorem ElemChecks {Z:Zone} {cl ca:List Value} {l:Lat} {a:El} {d:Nat} (hl:LatR Z cl l) (ha:ElR Z a ca) (fa:a.Fit d) :
  Cz M (.func (.func 3) #[] #[]) [.agg ⟨cl⟩,.agg ⟨ca⟩] Z [] (fun v' Z' A'=>v'=.bool true):=by
 have hl0:=hl
 have ha0:=ha
 obtain ⟨l1,l2,l3,l4,rfl,hT,hS⟩:=hl.form
 obtain ⟨q1,q2,q3,q4,ua,rfl,ak,as_,aL⟩:=ha.form
 refine Cz.fn (f:=Tryz.f3) Ev.cM rfl rfl rfl _ rfl ?_
 repeat first|refine go ?_|with_reducible intro _
 rename_i b2 b3
 refine Wk.bs (cs:=[.int .u8 a.kind,.int .i64 a.n,.slice q1 a.keys.length q2,.slice q3 a.kids.length q4]) rfl rfl rfl rfl rfl rfl rfl fun b9=>?_
 first|refine Wk.freezer Rem.head fun Z1 e1 h9=>?_|refine Wk.freeze Rem.head fun Z1 e1 h9=>?_
 repeat first|refine go ?_|with_reducible intro _
 refine Wk.call rfl rfl (Spl.none _) (thinLatE (hl0.mono e1) (ElsR_one (ha0.mono e1) h9) (by simp) (Fit1 fa)) Ev.cM rfl rfl ?_
 rintro v' Z' A' hz ⟨⟨b,rfl,hb⟩,rfl,rfl⟩
 cases b with
 | false =>
  repeat first|refine go ?_|with_reducible intro _
  refine Wk.call rfl rfl (Spl.none _) ((Cz.ora rfl)) rfl rfl rfl ?_
  rintro v' Z' A' hz ⟨rfl,rfl,rfl⟩
  repeat first|refine go ?_|with_reducible intro _
  exact Wk.ret ⟨_,Rs.tmp rfl Rs.nil,_,Sub.none _,rfl⟩
 | true =>
 have ht:=hb rfl
 repeat first|refine go ?_|with_reducible intro _
 refine Wk.drawr (ms:=[0,1,0,7,0,0,63,127]) (l:=[0,2,4,5,1,3,6,7]) Ev.cM Ev.cM Ev.cM rfl ?_
 repeat first|refine go ?_|with_reducible intro _
 refine Wk.callD rfl rfl (Spl.none _) (copyLattice (hl0.mono e1) ht) rfl rfl fun v1 Z2 A' hz2 hq=>?_
 obtain ⟨c1,rfl,hL2,rfl⟩:=hq
 refine ⟨?_,?_⟩
 ·exact Ev.pM2
 obtain ⟨m1,m2,m3,m4,rfl,_,_⟩:=hL2.form
 repeat first|refine go ?_|with_reducible intro _
 refine Wk.callD rfl rfl (Spl.none _) (copyEl d fa (ha0.mono (e1.trans hz2))) rfl rfl fun v1 Z3 A' hz3 hq=>?_
 obtain ⟨c2,rfl,hA2,rfl⟩:=hq
 refine ⟨?_,?_⟩
 ·exact Ev.pM2
 obtain ⟨n1,n2,n3,n4,_,rfl,_,_,_⟩:=hA2.form
 repeat first|refine go ?_|with_reducible intro _
 refine Wk.storeD rfl rfl rfl rfl rfl Ev.uM rfl rfl ⟨?_,?_⟩
 ·exact Ev.pM2
 repeat first|refine go ?_|with_reducible intro _
 refine Wk.store rfl rfl rfl rfl rfl Ev.uM rfl Ev.cM rfl ?_
 repeat first|refine go ?_|with_reducible intro _
 have e2:=e1.trans (hz2.trans hz3)
 refine Wk.call rfl rfl (Spl.none _) (checkEl (hL2.mono hz3) ht hA2 fa) Ev.cM rfl rfl ?_
 rintro v' Z' A' hz ⟨rfl,rfl,rfl⟩
 repeat first|refine go ?_|with_reducible intro _
 refine Wk.call rfl rfl (Spl.none _) (elemIsWrong (hL2.mono hz3) ht hA2 fa) Ev.cM rfl rfl ?_
 rintro v' Z' A' hz ⟨⟨r,rfl,hr⟩,rfl,rfl⟩
 repeat first|refine go ?_|with_reducible intro _
 refine Wk.call rfl rfl (Spl.none _) (rElemIsWrong (hl0.mono e2) ht (ha0.mono e2) fa) Ev.cM rfl rfl ?_
 rintro v' Z' A' hz ⟨⟨r',rfl,hr'⟩,rfl,rfl⟩
 obtain rfl:r=r':=Bool.eq_iff_iff.2 (hr.trans hr'.symm)
 repeat first|refine go ?_|with_reducible intro _
 refine Wk.bs (cs:=[.int .u8 a.kind,.int .i64 a.n,.slice q1 a.keys.length q2,.slice q3 a.kids.length q4]) rfl rfl rfl rfl rfl rfl rfl fun b40=>?_
 first|refine Wk.freezer Rem.head fun Z4 e4 h40=>?_|refine Wk.freeze Rem.head fun Z4 e4 h40=>?_
 have e5:=e2.trans e4
 repeat first|refine go ?_|with_reducible intro _
 refine Wk.call rfl rfl (Spl.none _) (rCheckEls (hl0.mono e5) ht (ElsR_one (ha0.mono e5) h40) (by simp) (Fit1 fa)) Ev.cM rfl rfl ?_
 rintro v' Z' A' hz ⟨rfl,rfl,rfl⟩
 repeat first|refine go ?_|with_reducible intro _
 refine Wk.caser 43 rfl (fun hc=>?_) (fun hc=>?_)
 rotate_left
 ·simp at hc
 clear hc
 repeat first|refine go ?_|with_reducible intro _
 refine Wk.caser 48 rfl (fun hc=>?_) (fun hc=>?_)
 rotate_left
 ·simp at hc
 clear hc
 repeat first|refine go ?_|with_reducible intro _
 refine Wk.caser 53 rfl (fun hc=>?_) (fun hc=>?_)
 rotate_left
 ·simp at hc
 clear hc
 repeat first|refine go ?_|with_reducible intro _
 refine Wk.call rfl rfl (Spl.none _) (sameLat1 (hL2.mono (hz3.trans e4)) (hl0.mono e5) ht) Ev.cM rfl rfl ?_
 rintro v' Z' A' hz ⟨rfl,rfl,rfl⟩
 repeat first|refine go ?_|with_reducible intro _
 refine Wk.call rfl rfl (Spl.none _) (sameEl d fa (hA2.mono e4) (ha0.mono e5)) Ev.cM rfl rfl ?_
 rintro v' Z' A' hz ⟨⟨r2,rfl,hr2⟩,rfl,rfl⟩
 have e6:r2=true:=hr2.2 rfl
 subst e6
 repeat first|refine go ?_|with_reducible intro _
 refine Wk.call rfl rfl (Spl.none _) ((Cz.ora rfl)) Ev.cM rfl rfl ?_
 rintro v' Z' A' hz ⟨rfl,rfl,rfl⟩
 repeat first|refine go ?_|with_reducible intro _
 exact Wk.ret ⟨_,Rs.tmp rfl Rs.nil,_,Sub.none _,rfl⟩
end Go.Proofs.J
namespace Go.Proofs.J
open Go.Ev Go
theorem bot_fit (d:Nat):El.bot.Fit (d+1):=by
 refine ⟨by simp [El.bot,El.levels,elLevelsL],?_⟩
 simp [El.Sm,El.bot,El.keys,El.kids,El.n,El.kind]
theorem joinR_fit {l:Lat} {a b:El} (ht:l.Th):(joinR l a b).2.Fit 4:=by
 unfold joinR
 split
 ·exact bot_fit 3
 ·rename_i h0
  split
  ·exact bot_fit 3
  ·have h0:ElsE l [a,b]=0:=Classical.not_not.1 h0
   obtain ⟨hC,hw⟩:=ElsE_zero h0
   obtain ⟨T,sok⟩:=CSE_ok ht hC
   obtain ⟨wa,ga⟩:=hw a (by simp)
   obtain ⟨wb,gb⟩:=hw b (by simp)
   exact joinE_fit T wa wb ga gb
theorem rElemBelow {Z:Zone} {cl ca cb:List Value} {l:Lat} {a b:El} {dd:Nat} (hl:LatR Z cl l) (ht:l.Th) (ha:ElR Z a ca) (hb:ElR Z b cb) (fa:a.Fit dd) (fb:b.Fit dd) :
  Cz M (.func (.func 32) #[] #[]) [.agg ⟨cl⟩,.agg ⟨ca⟩,.agg ⟨cb⟩] Z [] (fun v' Z' A'=>(∃ r:Bool,v'=.tuple ⟨[.bool r,.int .i64 (ElsE l [a,b])]⟩∧(r=true↔ElsE l [a,b]=0∧LeE l.1 4 l.2 a b))∧Z=Z'∧A'=[]):=by
 refine Cz.shrink ?_
 have hl0:=hl
 have ha0:=ha
 have hb0:=hb
 obtain ⟨l1,l2,l3,l4,rfl,hT,hS⟩:=hl.form
 obtain ⟨q1,q2,q3,q4,ua,rfl,ak,as_,aL⟩:=ha.form
 obtain ⟨r1,r2,r3,r4,ub,rfl,bk,bs_,bL⟩:=hb.form
 refine Cz.fn (f:=Tryz.f32) Ev.cM rfl rfl rfl _ rfl ?_
 repeat first|refine go ?_|with_reducible intro _
 refine Wk.bs (cs:=[.int .u8 a.kind,.int .i64 a.n,.slice q1 a.keys.length q2,.slice q3 a.kids.length q4,.int .u8 b.kind,.int .i64 b.n,.slice r1 b.keys.length r2,.slice r3 b.kids.length r4]) rfl rfl rfl rfl rfl rfl rfl fun b9=>?_
 first|refine Wk.freezer Rem.head fun Z1 e1 h9=>?_|refine Wk.freeze Rem.head fun Z1 e1 h9=>?_
 repeat first|refine go ?_|with_reducible intro _
 refine Wk.call rfl rfl (Spl.none _) (rCheckEls (hl0.mono e1) ht (ElsR_two (ha0.mono e1) (hb0.mono e1) h9) (by simp) (Fit2 fa fb)) rfl rfl rfl ?_
 rintro v' Z' A' hz ⟨rfl,rfl,rfl⟩
 repeat first|refine go ?_|with_reducible intro _
 refine Wk.cond rfl (fun hc=>?_) (fun hc=>?_)
 ·have hne:¬ ElsE l [a,b]=0:=by simpa using hc
  repeat first|refine go ?_|with_reducible intro _
  refine Wk.ret ⟨_,Rs.tmp rfl (Rs.tmp rfl Rs.nil),_,Sub.none _,⟨false,rfl,by simp [hne]⟩,rfl⟩
 ·have h0:ElsE l [a,b]=0:=by simpa using hc
  obtain ⟨hC,hw⟩:=ElsE_zero h0
  obtain ⟨T,sok⟩:=CSE_ok ht hC
  obtain ⟨wa,ga⟩:=hw a (by simp)
  obtain ⟨wb,gb⟩:=hw b (by simp)
  repeat first|refine go ?_|with_reducible intro _
  refine Wk.call rfl rfl (Spl.none _) (rIsBelow_e T 4 (hT.mono e1) (hS.mono e1) (ha0.mono e1) (hb0.mono e1) wa wb ga gb sok) rfl rfl rfl ?_
  rintro v' Z' A' hz ⟨⟨r,rfl,hr⟩,rfl,rfl⟩
  repeat first|refine go ?_|with_reducible intro _
  refine Wk.ret ⟨_,Rs.tmp rfl (Rs.tmp rfl Rs.nil),_,Sub.none _,⟨r,by rw [h0];rfl,by simp [hr,h0]⟩,rfl⟩
theorem ElemJoins {Z:Zone} {cl ca cb:List Value} {l:Lat} {a b:El} {d:Nat} (hl:LatR Z cl l) (ha:ElR Z a ca) (hb:ElR Z b cb) (fa:a.Fit d) (fb:b.Fit d) :
  Cz M (.func (.func 5) #[] #[]) [.agg ⟨cl⟩,.agg ⟨ca⟩,.agg ⟨cb⟩] Z [] (fun v' Z' A'=>v'=.bool true):=by
 have hl0:=hl
 have ha0:=ha
 have hb0:=hb
 obtain ⟨l1,l2,l3,l4,rfl,hT,hS⟩:=hl.form
 obtain ⟨q1,q2,q3,q4,ua,rfl,ak,as_,aL⟩:=ha.form
 obtain ⟨r1,r2,r3,r4,ub,rfl,bk,bs_,bL⟩:=hb.form
 refine Cz.fn (f:=Tryz.f5) Ev.cM rfl rfl rfl _ rfl ?_
 repeat first|refine go ?_|with_reducible intro _
 refine Wk.bs (cs:=[.int .u8 a.kind,.int .i64 a.n,.slice q1 a.keys.length q2,.slice q3 a.kids.length q4,.int .u8 b.kind,.int .i64 b.n,.slice r1 b.keys.length r2,.slice r3 b.kids.length r4]) rfl rfl rfl rfl rfl rfl rfl fun b9=>?_
 first|refine Wk.freezer Rem.head fun Z1 e1 h9=>?_|refine Wk.freeze Rem.head fun Z1 e1 h9=>?_
 repeat first|refine go ?_|with_reducible intro _
 refine Wk.call rfl rfl (Spl.none _) (thinLatE (hl0.mono e1) (ElsR_two (ha0.mono e1) (hb0.mono e1) h9) (by simp) (Fit2 fa fb)) Ev.cM rfl rfl ?_
 rintro v' Z' A' hz ⟨⟨bb,rfl,hbb⟩,rfl,rfl⟩
 cases bb with
 | false =>
  repeat first|refine go ?_|with_reducible intro _
  refine Wk.call rfl rfl (Spl.none _) ((Cz.ora rfl)) rfl rfl rfl ?_
  rintro v' Z' A' hz ⟨rfl,rfl,rfl⟩
  repeat first|refine go ?_|with_reducible intro _
  exact Wk.ret ⟨_,Rs.tmp rfl Rs.nil,_,Sub.none _,rfl⟩
 | true =>
 have ht:=hbb rfl
 repeat first|refine go ?_|with_reducible intro _
 refine Wk.drawr (ms:=[0,1,0,7,0,31,0,0,0,511,1023,2047]) (l:=[0,2,4,6,7,8,1,3,5,9,10,11]) Ev.cM Ev.cM Ev.cM rfl ?_
 repeat first|refine go ?_|with_reducible intro _
 refine Wk.callD rfl rfl (Spl.none _) (copyLattice (hl0.mono e1) ht) rfl rfl fun v1 Z2 A' hz2 hq=>?_
 obtain ⟨c1,rfl,hL2,rfl⟩:=hq
 refine ⟨?_,?_⟩
 ·exact Ev.pM2
 obtain ⟨m1,m2,m3,m4,rfl,_,_⟩:=hL2.form
 repeat first|refine go ?_|with_reducible intro _
 refine Wk.callD rfl rfl (Spl.none _) (copyEl d fa (ha0.mono (e1.trans hz2))) rfl rfl fun v1 Z3 A' hz3 hq=>?_
 obtain ⟨c2,rfl,hA2,rfl⟩:=hq
 refine ⟨?_,?_⟩
 ·exact Ev.pM2
 obtain ⟨n1,n2,n3,n4,_,rfl,_,_,_⟩:=hA2.form
 repeat first|refine go ?_|with_reducible intro _
 refine Wk.callD rfl rfl (Spl.none _) (copyEl d fb (hb0.mono (e1.trans (hz2.trans hz3)))) rfl rfl fun v1 Z4 A' hz4 hq=>?_
 obtain ⟨c3,rfl,hB2,rfl⟩:=hq
 refine ⟨?_,?_⟩
 ·exact Ev.pM2
 obtain ⟨o1,o2,o3,o4,_,rfl,_,_,_⟩:=hB2.form
 repeat first|refine go ?_|with_reducible intro _
 refine Wk.storeD rfl rfl rfl rfl rfl Ev.uM rfl rfl ⟨?_,?_⟩
 ·exact Ev.pM2
 repeat first|refine go ?_|with_reducible intro _
 refine Wk.storeD rfl rfl rfl rfl rfl Ev.uM rfl rfl ⟨?_,?_⟩
 ·exact Ev.pM2
 repeat first|refine go ?_|with_reducible intro _
 refine Wk.store rfl rfl rfl rfl rfl Ev.uM rfl Ev.cM rfl ?_
 repeat first|refine go ?_|with_reducible intro _
 have e2:=e1.trans (hz2.trans (hz3.trans hz4))
 replace hL2:=hL2.mono (hz3.trans hz4)
 replace hA2:=hA2.mono hz4
 replace hl0:=hl0.mono e2
 replace ha0:=ha0.mono e2
 replace hb0:=hb0.mono e2
 refine Wk.call rfl rfl (Spl.none _) (elemJoin hL2 ht hA2 hB2 fa fb) Ev.cM rfl rfl ?_
 rintro v' Z5 A' hz5 ⟨cj,rfl,hj,rfl⟩
 replace hL2:=hL2.mono hz5
 replace hA2:=hA2.mono hz5
 replace hB2:=hB2.mono hz5
 replace hl0:=hl0.mono hz5
 replace ha0:=ha0.mono hz5
 replace hb0:=hb0.mono hz5
 obtain ⟨x1,x2,x3,x4,_,rfl,_,_,_⟩:=hj.form
 repeat first|refine go ?_|with_reducible intro _
 refine Wk.call rfl rfl (Spl.none _) (elemBelow hL2 ht hA2 hB2 fa fb) Ev.cM rfl rfl ?_
 rintro v' Z' A' hz ⟨⟨r,rfl,hr⟩,rfl,rfl⟩
 repeat first|refine go ?_|with_reducible intro _
 refine Wk.call rfl rfl (Spl.none _) (elemExcludes hL2 ht hA2 hB2 fa fb) Ev.cM rfl rfl ?_
 rintro v' Z' A' hz ⟨⟨s,rfl,hs⟩,rfl,rfl⟩
 repeat first|refine go ?_|with_reducible intro _
 refine Wk.call rfl rfl (Spl.none _) (rElemJoin hl0 ht ha0 hb0 fa fb) Ev.cM rfl rfl ?_
 rintro v' Z6 A' hz6 ⟨cj',rfl,hj',rfl⟩
 replace hL2:=hL2.mono hz6
 replace hA2:=hA2.mono hz6
 replace hB2:=hB2.mono hz6
 replace hl0:=hl0.mono hz6
 replace ha0:=ha0.mono hz6
 replace hb0:=hb0.mono hz6
 replace hj:=hj.mono hz6
 obtain ⟨y1,y2,y3,y4,_,rfl,_,_,_⟩:=hj'.form
 repeat first|refine go ?_|with_reducible intro _
 refine Wk.call rfl rfl (Spl.none _) (rElemBelow hl0 ht ha0 hb0 fa fb) Ev.cM rfl rfl ?_
 rintro v' Z' A' hz ⟨⟨r',rfl,hr'⟩,rfl,rfl⟩
 obtain rfl:r=r':=Bool.eq_iff_iff.2 (hr.trans hr'.symm)
 repeat first|refine go ?_|with_reducible intro _
 refine Wk.call rfl rfl (Spl.none _) (rElemExcludes hl0 ht ha0 hb0 fa fb) Ev.cM rfl rfl ?_
 rintro v' Z' A' hz ⟨⟨s',rfl,hs'⟩,rfl,rfl⟩
 obtain rfl:s=s':=Bool.eq_iff_iff.2 (hs.trans hs'.symm)
 repeat first|refine go ?_|with_reducible intro _
 refine Wk.call rfl rfl (Spl.none _) (sameEl _ (joinR_fit ht) hj hj') Ev.cM rfl rfl ?_
 rintro v' Z' A' hz ⟨⟨r2,rfl,hr2⟩,rfl,rfl⟩
 obtain rfl:r2=true:=hr2.2 rfl
 repeat first|refine go ?_|with_reducible intro _
 refine Wk.caser 85 rfl (fun hc=>?_) (fun hc=>?_)
 rotate_left
 ·simp at hc
 clear hc
 repeat first|refine go ?_|with_reducible intro _
 refine Wk.caser 90 rfl (fun hc=>?_) (fun hc=>?_)
 rotate_left
 ·simp at hc
 clear hc
 repeat first|refine go ?_|with_reducible intro _
 refine Wk.caser 95 rfl (fun hc=>?_) (fun hc=>?_)
 rotate_left
 ·simp at hc
 clear hc
 repeat first|refine go ?_|with_reducible intro _
 refine Wk.caser 100 rfl (fun hc=>?_) (fun hc=>?_)
 rotate_left
 ·simp at hc
 clear hc
 repeat first|refine go ?_|with_reducible intro _
 refine Wk.caser 105 rfl (fun hc=>?_) (fun hc=>?_)
 rotate_left
 ·simp at hc
 clear hc
 repeat first|refine go ?_|with_reducible intro _
 refine Wk.call rfl rfl (Spl.none _) (sameLat1 hL2 hl0 ht) Ev.cM rfl rfl ?_
 rintro v' Z' A' hz ⟨rfl,rfl,rfl⟩
 repeat first|refine go ?_|with_reducible intro _
 refine Wk.call rfl rfl (Spl.none _) (sameEl d fa hA2 ha0) Ev.cM rfl rfl ?_
 rintro v' Z' A' hz ⟨⟨r3,rfl,hr3⟩,rfl,rfl⟩
 obtain rfl:r3=true:=hr3.2 rfl
 repeat first|refine go ?_|with_reducible intro _
 refine Wk.call rfl rfl (Spl.none _) (sameEl d fb hB2 hb0) Ev.cM rfl rfl ?_
 rintro v' Z' A' hz ⟨⟨r4,rfl,hr4⟩,rfl,rfl⟩
 obtain rfl:r4=true:=hr4.2 rfl
 repeat first|refine go ?_|with_reducible intro _
 refine Wk.call rfl rfl (Spl.none _) ((Cz.ora rfl)) Ev.cM rfl rfl ?_
 rintro v' Z' A' hz ⟨rfl,rfl,rfl⟩
 repeat first|refine go ?_|with_reducible intro _
 exact Wk.ret ⟨_,Rs.tmp rfl Rs.nil,_,Sub.none _,rfl⟩
end Go.Proofs.J
namespace Go.Proofs.J
open Go.Ev Go
def Sg (r c:Int):Prop:=(r < 0↔c < 0)∧(r=0↔c=0)
theorem less_ {d d':Nat} {Z:Zone} {ca cb:List Value} {a b:El} (ha:ElR Z a ca) (hb:ElR Z b cb) (fa:a.Fit d) (fb:b.Fit d') :
  Cz M (.func (.func 26) #[] #[]) [.agg ⟨ca⟩,.agg ⟨cb⟩] Z [] (fun v' Z' A'=>v'=.bool (decide (cmpE a b < 0))∧Z=Z'∧A'=[]):=by
 obtain ⟨q1,q2,q3,q4,ua,rfl,ak,as_,aL⟩:=ha.form
 obtain ⟨r1,r2,r3,r4,ub,rfl,bk,bs_,bL⟩:=hb.form
 refine Cz.fn (f:=Tryz.f26) Ev.cM rfl rfl rfl _ rfl ?_
 repeat first|refine go ?_|with_reducible intro _
 refine Wk.call rfl rfl (Spl.none _) (compareE d d' ha hb fa fb) rfl rfl rfl ?_
 rintro v' Z' A' hz ⟨rfl,rfl,rfl⟩
 repeat first|refine go ?_|with_reducible intro _
 refine Wk.ret ⟨_,Rs.tmp rfl Rs.nil,_,Sub.none _,by simp [outOf],rfl,rfl⟩
theorem sg_end {x y:List Int} {j:Nat} (hx:j≤x.length) (hy:j≤y.length) (h:j=x.length∨j=y.length):Sg ((x.length:Int) - y.length) (cmpL (x.drop j) (y.drop j)):=by
 unfold Sg
 rcases Nat.lt_or_ge j x.length with h1|h1
 ·have:j=y.length:=by omega
  rw [List.drop_eq_getElem_cons h1,List.drop_of_length_le (l:=y) Ev.wM,cmpL];omega
 ·rw [List.drop_of_length_le (l:=x) h1]
  rcases Nat.lt_or_ge j y.length with h2|h2
  ·rw [List.drop_eq_getElem_cons h2,cmpL];omega
  ·rw [List.drop_of_length_le (l:=y) h2,cmpL];omega
theorem rCmpInts {Z:Zone} {v w:Value} {x y:List Int} (s:Sl Z 1 v x.length (nums x)) (t:Sl Z 1 w y.length (nums y)) (hx:x.length≤17592186044416) (hy:y.length≤17592186044416) :
  Cz M (.func (.func 103) #[] #[]) [v,w] Z [] (fun v' Z' A'=>(∃ r,v'=.int .i64 r∧Sg r (cmpL x y))∧Z=Z'∧A'=[]):=by
 obtain ⟨q,c,rfl⟩:=s.form
 obtain ⟨r,e,rfl⟩:=t.form
 refine Cz.fn (f:=Tryz.f103) Ev.cM rfl rfl rfl _ rfl ?_
 repeat first|refine go ?_|with_reducible intro _
 refine Wk.loop (fun mm L Z' A'=>∃ j:Nat,j≤x.length∧mm=x.length - j∧Z=Z'∧Sub A' []∧(j≤y.length∧cmpL x y=cmpL (x.drop j) (y.drop j))∧Kp L [(0,.slice q x.length c),(1,.slice r y.length e),(5,.int .i64 j)]) (x.length) ⟨0,Nat.zero_le _,rfl,rfl,Ev.sM,⟨Nat.zero_le _,rfl⟩,Ev.kM⟩ ?_
 rintro mm L Z' A' - ⟨j,hjj,rfl,rfl,hsub,invj,hk⟩
 refine Wk.drop hsub ?_
 refine Wk.kp hk ?_
 clear hk hsub
 obtain ⟨hjy,hinv⟩:=invj
 repeat first|refine go ?_|with_reducible intro _
 refine Wk.caser 10 rfl (fun hc=>?_) (fun hc=>?_)
 ·have hlt:j < x.length:=by simp at hc;omega
  clear hc
  repeat first|refine go ?_|with_reducible intro _
  refine Wk.cond rfl (fun hc=>?_) (fun hc=>?_)
  ·have hlt2:j < y.length:=by simp at hc;omega
   clear hc
   have g1:getCells (nums x) (j*1) 1=some [.int .i64 x[j]]:=getCells_map hlt
   have g2:getCells (nums y) (j*1) 1=some [.int .i64 y[j]]:=getCells_map hlt2
   repeat first|refine go ?_|with_reducible intro _
   refine Wk.drawr (ms:=[0,0,3,7,0,0,48,112,255]) (l:=[0,1,2,3,4,5,6,7,8]) Ev.cM Ev.cM Ev.cM rfl ?_
   repeat first|refine go ?_|with_reducible intro _
   refine Wk.cond rfl (fun hc=>?_) (fun hc=>?_)
   ·have hne:¬ x[j]=y[j]:=by simpa using hc
    clear hc
    repeat first|refine go ?_|with_reducible intro _
    refine Wk.drawr (ms:=[0,0,3,7,0,0,48,112,255]) (l:=[0,1,2,3,4,5,6,7,8]) Ev.cM Ev.cM Ev.cM rfl ?_
    repeat first|refine go ?_|with_reducible intro _
    refine Wk.cond rfl (fun hc=>?_) (fun hc=>?_)
    ·have h:x[j] < y[j]:=by simpa using hc
     repeat first|refine go ?_|with_reducible intro _
     refine Wk.ret ⟨_,Rs.tmp rfl Rs.nil,_,Sub.none _,⟨-1,rfl,by rw [hinv,cmpL_drop hlt hlt2];simp [Sg,orI,cmpI,h]⟩,rfl,rfl⟩
    ·have h:y[j] < x[j]:=by simp at hc;omega
     repeat first|refine go ?_|with_reducible intro _
     refine Wk.ret ⟨_,Rs.tmp rfl Rs.nil,_,Sub.none _,⟨1,rfl,by rw [hinv,cmpL_drop hlt hlt2];simp [Sg,orI,cmpI,h,Int.lt_asymm h]⟩,rfl,rfl⟩
   ·have h:x[j]=y[j]:=by simpa using hc
    clear hc
    repeat first|refine go ?_|with_reducible intro _
    refine Wk.inv ⟨_,by omega,j+1,by omega,rfl,rfl,Ev.sM,(⟨hlt2,by rw [hinv,cmpL_drop hlt hlt2,h];simp [orI,cmpI]⟩),Ev.kM⟩
  ·have hjn:j=y.length:=by simp at hc;omega
   repeat first|refine go ?_|with_reducible intro _
   refine Wk.ret ⟨_,Rs.tmp rfl Rs.nil,_,Sub.none _,⟨_,rfl,by rw [hinv];exact sg_end hjj hjy (.inr hjn)⟩,rfl,rfl⟩
 ·have hjn:j=x.length:=by simp at hc;omega
  repeat first|refine go ?_|with_reducible intro _
  refine Wk.ret ⟨_,Rs.tmp rfl Rs.nil,_,Sub.none _,⟨_,rfl,by rw [hinv];exact sg_end hjj hjy (.inl hjn)⟩,rfl,rfl⟩
theorem sgs_end {x y:List El} {j:Nat} (hx:j≤x.length) (hy:j≤y.length) (h:j=x.length∨j=y.length):Sg ((x.length:Int) - y.length) (cmpEs (x.drop j) (y.drop j)):=by
 unfold Sg
 rcases Nat.lt_or_ge j x.length with h1|h1
 ·have:j=y.length:=by omega
  rw [List.drop_eq_getElem_cons h1,List.drop_of_length_le (l:=y) Ev.wM,cmpEs];omega
 ·rw [List.drop_of_length_le (l:=x) h1]
  rcases Nat.lt_or_ge j y.length with h2|h2
  ·rw [List.drop_eq_getElem_cons h2,cmpEs];omega
  ·rw [List.drop_of_length_le (l:=y) h2,cmpEs];omega
theorem rCompare_:∀ (d d':Nat) {Z:Zone} {ca cb:List Value} {a b:El},ElR Z a ca→ElR Z b cb→a.Fit d→b.Fit d' →
  Cz M (.func (.func 69) #[] #[]) [.agg ⟨ca⟩,.agg ⟨cb⟩] Z [] (fun v' Z' A'=>(∃ r,v'=.int .i64 r∧Sg r (cmpE a b))∧Z=Z'∧A'=[])
 | 0,d',Z,ca,cb,a,b,ha,hb,fa,fb=>fa.pos.elim
 | d+1,0,Z,ca,cb,a,b,ha,hb,fa,fb=>fb.pos.elim
 | d+1,d'+1,Z,ca,cb,a,b,ha,hb,fa,fb=>by
  obtain ⟨q1,q2,q3,q4,ua,rfl,ak,as_,aL⟩:=ha.form
  obtain ⟨r1,r2,r3,r4,ub,rfl,bk,bs_,bL⟩:=hb.form
  have t1:=fa.sm
  have t2:=fb.sm
  have k1:=t1.2.2.2.1
  have k2:=t2.2.2.2.1
  have l1:=t1.2.1
  have l2:=t2.2.1
  rw [cmpE_eq]
  refine Cz.fn (f:=Tryz.f69) Ev.cM rfl rfl rfl _ rfl ?_
  repeat first|refine go ?_|with_reducible intro _
  rename_i b2 b3
  refine Wk.cond rfl (fun hc=>?_) (fun hc=>?_)
  ·have h:¬ a.kind=b.kind:=by simpa using hc
   clear hc
   repeat first|refine go ?_|with_reducible intro _
   refine Wk.conv rfl rfl rfl (Go.Ev.wrap_small Ev.wM Ev.wM) rfl rfl rfl ?_
   repeat first|refine go ?_|with_reducible intro _
   refine Wk.conv rfl rfl rfl (Go.Ev.wrap_small Ev.wM Ev.wM) rfl rfl rfl ?_
   repeat first|refine go ?_|with_reducible intro _
   refine Wk.ret ⟨_,Rs.tmp rfl Rs.nil,_,Sub.none _,⟨_,rfl,by unfold Sg orI cmpI;repeat' split;all_goals omega⟩,rfl,rfl⟩
  have e1:cmpI a.kind b.kind=0:=cmpI_zero.2 (by simpa using hc)
  clear hc
  rw [e1]
  repeat first|refine go ?_|with_reducible intro _
  refine Wk.cond rfl (fun hc=>?_) (fun hc=>?_)
  ·have h:¬ a.n=b.n:=by simpa using hc
   clear hc
   repeat first|refine go ?_|with_reducible intro _
   refine Wk.cond rfl (fun hc=>?_) (fun hc=>?_)
   ·have h:a.n < b.n:=by simpa using hc
    repeat first|refine go ?_|with_reducible intro _
    refine Wk.ret ⟨_,Rs.tmp rfl Rs.nil,_,Sub.none _,⟨-1,rfl,by simp [Sg,orI,cmpI,h]⟩,rfl,rfl⟩
   ·have h:b.n < a.n:=by simp at hc;omega
    repeat first|refine go ?_|with_reducible intro _
    refine Wk.ret ⟨_,Rs.tmp rfl Rs.nil,_,Sub.none _,⟨1,rfl,by simp [Sg,orI,cmpI,h,Int.lt_asymm h]⟩,rfl,rfl⟩
  have e2:cmpI a.n b.n=0:=cmpI_zero.2 (by simpa using hc)
  clear hc
  rw [e2]
  have e0:∀ x,orI 0 x=x:=fun x=>by simp [orI]
  rw [e0,e0]
  repeat first|refine go ?_|with_reducible intro _
  refine Wk.call rfl rfl (Spl.none _) (rCmpInts ak bk t1.1 t2.1) Ev.cM rfl rfl ?_
  rintro v' Z' A' hz ⟨⟨r,rfl,hr⟩,rfl,rfl⟩
  repeat first|refine go ?_|with_reducible intro _
  refine Wk.cond rfl (fun hc=>?_) (fun hc=>?_)
  ·have h:¬ r=0:=by simpa using hc
   repeat first|refine go ?_|with_reducible intro _
   refine Wk.ret ⟨_,Rs.tmp rfl Rs.nil,_,Sub.none _,⟨r,rfl,by unfold Sg at hr ⊢;unfold orI;split<;>omega⟩,rfl,rfl⟩
  have e3:cmpL a.keys b.keys=0:=hr.2.1 (by simpa using hc)
  clear hc
  rw [e3,e0]
  repeat first|refine go ?_|with_reducible intro _
  refine Wk.loop (fun mm L Z' A'=>∃ j:Nat,j≤a.kids.length∧mm=a.kids.length - j∧Z=Z'∧Sub A' [pt b3 (.cells [.int .u8 b.kind,.int .i64 b.n,.slice r1 b.keys.length r2,.slice r3 b.kids.length r4] true 0),pt b2 (.cells [.int .u8 a.kind,.int .i64 a.n,.slice q1 a.keys.length q2,.slice q3 a.kids.length q4] true 0)]∧(j≤b.kids.length∧cmpEs a.kids b.kids=cmpEs (a.kids.drop j) (b.kids.drop j))∧Kp L [(2,.pointer (some ⟨b2,0,none⟩)),(3,.pointer (some ⟨b3,0,none⟩)),(6,.int .i64 j)]) (a.kids.length) ⟨0,Nat.zero_le _,rfl,rfl,Ev.sM,⟨Nat.zero_le _,rfl⟩,Ev.kM⟩ ?_
  rintro mm L Z' A' - ⟨j,hjj,rfl,rfl,hsub,invj,hk⟩
  refine Wk.drop hsub ?_
  refine Wk.kp hk ?_
  clear hk hsub
  obtain ⟨hjy,hinv⟩:=invj
  repeat first|refine go ?_|with_reducible intro _
  refine Wk.caser 45 rfl (fun hc=>?_) (fun hc=>?_)
  ·have hlt:j < a.kids.length:=by simp at hc;omega
   clear hc
   repeat first|refine go ?_|with_reducible intro _
   refine Wk.cond rfl (fun hc=>?_) (fun hc=>?_)
   ·have hlt2:j < b.kids.length:=by simp at hc;omega
    clear hc
    obtain ⟨k',n',x1,m1,y1,x2,m2,y2,gx,rrx⟩:=aL.get j hlt
    obtain ⟨k3,n3,z1,o1,w1,z2,o2,w2,gy,rry⟩:=bL.get j hlt2
    repeat first|refine go ?_|with_reducible intro _
    refine Wk.drawr (ms:=[0,1,0,7,15,0,32,0,224,480,1023,2047]) (l:=[0,1,2,3,4,5,6,7,8,9,10,11]) Ev.cM Ev.cM Ev.cM rfl ?_
    repeat first|refine go ?_|with_reducible intro _
    refine Wk.callD rfl rfl (Spl.none _) (rCompare_ d d' rrx rry (fa.kid hlt) (fb.kid hlt2)) rfl rfl fun v9 Z9 A' hz9 hq=>?_
    obtain ⟨⟨r',rfl,hr'⟩,rfl,rfl⟩:=hq
    refine ⟨?_,?_⟩
    ·exact Ev.pM2
    repeat first|refine go ?_|with_reducible intro _
    refine Wk.cond rfl (fun hc=>?_) (fun hc=>?_)
    ·have h:¬ r'=0:=by simpa using hc
     repeat first|refine go ?_|with_reducible intro _
     refine Wk.ret ⟨_,Rs.tmp rfl Rs.nil,_,Sub.none _,⟨r',rfl,by rw [hinv,cmpEs_drop hlt hlt2];unfold Sg at hr' ⊢;unfold orI;split<;>omega⟩,rfl,rfl⟩
    ·have h:cmpE a.kids[j] b.kids[j]=0:=hr'.2.1 (by simpa using hc)
     clear hc
     repeat first|refine go ?_|with_reducible intro _
     refine Wk.inv ⟨_,by omega,j+1,by omega,rfl,rfl,Ev.sM,(⟨hlt2,by rw [hinv,cmpEs_drop hlt hlt2,h];simp [orI]⟩),Ev.kM⟩
   ·have hjn:j=b.kids.length:=by simp at hc;omega
    repeat first|refine go ?_|with_reducible intro _
    refine Wk.ret ⟨_,Rs.tmp rfl Rs.nil,_,Sub.none _,⟨_,rfl,by rw [hinv];exact sgs_end hjj hjy (.inr hjn)⟩,rfl,rfl⟩
  ·have hjn:j=a.kids.length:=by simp at hc;omega
   repeat first|refine go ?_|with_reducible intro _
   refine Wk.ret ⟨_,Rs.tmp rfl Rs.nil,_,Sub.none _,⟨_,rfl,by rw [hinv];exact sgs_end hjj hjy (.inl hjn)⟩,rfl,rfl⟩
theorem rLess_ {d d':Nat} {Z:Zone} {ca cb:List Value} {a b:El} (ha:ElR Z a ca) (hb:ElR Z b cb) (fa:a.Fit d) (fb:b.Fit d') :
  Cz M (.func (.func 27) #[] #[]) [.agg ⟨ca⟩,.agg ⟨cb⟩] Z [] (fun v' Z' A'=>v'=.bool (decide (cmpE a b < 0))∧Z=Z'∧A'=[]):=by
 obtain ⟨q1,q2,q3,q4,ua,rfl,ak,as_,aL⟩:=ha.form
 obtain ⟨r1,r2,r3,r4,ub,rfl,bk,bs_,bL⟩:=hb.form
 refine Cz.fn (f:=Tryz.f27) Ev.cM rfl rfl rfl _ rfl ?_
 repeat first|refine go ?_|with_reducible intro _
 refine Wk.call rfl rfl (Spl.none _) (rCompare_ d d' ha hb fa fb) rfl rfl rfl ?_
 rintro v' Z' A' hz ⟨⟨r,rfl,hr⟩,rfl,rfl⟩
 repeat first|refine go ?_|with_reducible intro _
 refine Wk.ret ⟨_,Rs.tmp rfl Rs.nil,_,Sub.none _,by simp [outOf,hr.1],rfl,rfl⟩
end Go.Proofs.J
namespace Go.Proofs.J
open Go.Ev Go
theorem ElemLess {Z:Zone} {ca cb:List Value} {a b:El} {d d':Nat} (ha:ElR Z a ca) (hb:ElR Z b cb) (fa:a.Fit d) (fb:b.Fit d') :
  Cz M (.func (.func 4) #[] #[]) [.agg ⟨ca⟩,.agg ⟨cb⟩] Z [] (fun v' Z' A'=>v'=.bool true):=by
 have ha0:=ha
 have hb0:=hb
 obtain ⟨q1,q2,q3,q4,ua,rfl,ak,as_,aL⟩:=ha.form
 obtain ⟨r1,r2,r3,r4,ub,rfl,bk,bs_,bL⟩:=hb.form
 refine Cz.fn (f:=Tryz.f4) Ev.cM rfl rfl rfl _ rfl ?_
 repeat first|refine go ?_|with_reducible intro _
 rename_i b2 b3
 refine Wk.call rfl rfl (Spl.none _) (size_ d fa ha0) Ev.cM rfl rfl ?_
 rintro v' Z' A' hz ⟨⟨q,rfl⟩,rfl,rfl⟩
 repeat first|refine go ?_|with_reducible intro _
 refine Wk.caser 8 rfl (fun hc=>?_) (fun hc=>?_)
 ·repeat first|refine go ?_|with_reducible intro _
  refine Wk.call rfl rfl (Spl.none _) ((Cz.ora rfl)) rfl rfl rfl ?_
  rintro v' Z' A' hz ⟨rfl,rfl,rfl⟩
  repeat first|refine go ?_|with_reducible intro _
  exact Wk.ret ⟨_,Rs.tmp rfl Rs.nil,_,Sub.none _,rfl⟩
 clear hc
 repeat first|refine go ?_|with_reducible intro _
 refine Wk.call rfl rfl (Spl.none _) (size_ d' fb hb0) Ev.cM rfl rfl ?_
 rintro v' Z' A' hz ⟨⟨q',rfl⟩,rfl,rfl⟩
 repeat first|refine go ?_|with_reducible intro _
 refine Wk.cond rfl (fun hc=>?_) (fun hc=>?_)
 ·repeat first|refine go ?_|with_reducible intro _
  refine Wk.call rfl rfl (Spl.none _) ((Cz.ora rfl)) rfl rfl rfl ?_
  rintro v' Z' A' hz ⟨rfl,rfl,rfl⟩
  repeat first|refine go ?_|with_reducible intro _
  exact Wk.ret ⟨_,Rs.tmp rfl Rs.nil,_,Sub.none _,rfl⟩
 clear hc
 repeat first|refine go ?_|with_reducible intro _
 refine Wk.drawr (ms:=[0,1,0,7,15,0,0,127,255,511,1023,2047,1023,8191,16383,1023,1023,131071,262143,524287,1048575,2097151,4194303,2097151,16777215,33554431,67108863,134217727,268435455,536870911,1073741823,2147483647]) (l:=[0,2,5,6,1,3,4,7,8,9,10,12,15,16,11,13,14,17,18,19,20,21,23,22,24,25,26,27,28,29,30,31]) Ev.cM Ev.cM Ev.cM rfl ?_
 repeat first|refine go ?_|with_reducible intro _
 refine Wk.callD rfl rfl (Spl.none _) (copyEl d fa ha0) rfl rfl fun v1 Z1 A' hzZ1 hq=>?_
 obtain ⟨c1,rfl,h1,rfl⟩:=hq
 refine ⟨?_,?_⟩
 ·exact Ev.pM2
 repeat first|refine go ?_|with_reducible intro _
 refine Wk.callD rfl rfl (Spl.none _) (copyEl d' fb (hb0.mono hzZ1)) rfl rfl fun v1 Z2 A' hzZ2 hq=>?_
 obtain ⟨c2,rfl,h2,rfl⟩:=hq
 refine ⟨?_,?_⟩
 ·exact Ev.pM2
 repeat first|refine go ?_|with_reducible intro _
 refine Wk.callD rfl rfl (Spl.none _) (less_ (h1.mono hzZ2) h2 fa fb) rfl rfl fun v1 Z3 A' hzZ3 hq=>?_
 obtain ⟨rfl,rfl,rfl⟩:=hq
 refine ⟨?_,?_⟩
 ·exact Ev.pM2
 repeat first|refine go ?_|with_reducible intro _
 refine Wk.callD rfl rfl (Spl.none _) (rLess_ (ha0.mono (hzZ1.trans hzZ2)) (hb0.mono (hzZ1.trans hzZ2)) fa fb) rfl rfl fun v1 Z4 A' hzZ4 hq=>?_
 obtain ⟨rfl,rfl,rfl⟩:=hq
 refine ⟨?_,?_⟩
 ·exact Ev.pM2
 repeat first|refine go ?_|with_reducible intro _
 refine Wk.caser 23 rfl (fun hc=>?_) (fun hc=>?_)
 rotate_left
 ·simp at hc
 clear hc
 repeat first|refine go ?_|with_reducible intro _
 refine Wk.callD rfl rfl (Spl.none _) (copyEl d' fb (hb0.mono (hzZ1.trans hzZ2))) rfl rfl fun v1 Z5 A' hzZ5 hq=>?_
 obtain ⟨c5,rfl,h5,rfl⟩:=hq
 refine ⟨?_,?_⟩
 ·exact Ev.pM2
 repeat first|refine go ?_|with_reducible intro _
 refine Wk.callD rfl rfl (Spl.none _) (copyEl d fa (ha0.mono ((hzZ1.trans hzZ2).trans hzZ5))) rfl rfl fun v1 Z6 A' hzZ6 hq=>?_
 obtain ⟨c6,rfl,h6,rfl⟩:=hq
 refine ⟨?_,?_⟩
 ·exact Ev.pM2
 repeat first|refine go ?_|with_reducible intro _
 refine Wk.callD rfl rfl (Spl.none _) (less_ (h5.mono hzZ6) h6 fb fa) rfl rfl fun v1 Z7 A' hzZ7 hq=>?_
 obtain ⟨rfl,rfl,rfl⟩:=hq
 refine ⟨?_,?_⟩
 ·exact Ev.pM2
 repeat first|refine go ?_|with_reducible intro _
 refine Wk.callD rfl rfl (Spl.none _) (rLess_ (hb0.mono (((hzZ1.trans hzZ2).trans hzZ5).trans hzZ6)) (ha0.mono (((hzZ1.trans hzZ2).trans hzZ5).trans hzZ6)) fb fa) rfl rfl fun v1 Z8 A' hzZ8 hq=>?_
 obtain ⟨rfl,rfl,rfl⟩:=hq
 refine ⟨?_,?_⟩
 ·exact Ev.pM2
 repeat first|refine go ?_|with_reducible intro _
 refine Wk.caser 34 rfl (fun hc=>?_) (fun hc=>?_)
 rotate_left
 ·simp at hc
 clear hc
 repeat first|refine go ?_|with_reducible intro _
 refine Wk.callD rfl rfl (Spl.none _) (copyEl d fa (ha0.mono (((hzZ1.trans hzZ2).trans hzZ5).trans hzZ6))) rfl rfl fun v1 Z9 A' hzZ9 hq=>?_
 obtain ⟨c9,rfl,h9,rfl⟩:=hq
 refine ⟨?_,?_⟩
 ·exact Ev.pM2
 repeat first|refine go ?_|with_reducible intro _
 refine Wk.callD rfl rfl (Spl.none _) (copyEl d fa (ha0.mono ((((hzZ1.trans hzZ2).trans hzZ5).trans hzZ6).trans hzZ9))) rfl rfl fun v1 Z10 A' hzZ10 hq=>?_
 obtain ⟨c10,rfl,h10,rfl⟩:=hq
 refine ⟨?_,?_⟩
 ·exact Ev.pM2
 repeat first|refine go ?_|with_reducible intro _
 refine Wk.callD rfl rfl (Spl.none _) (less_ (h9.mono hzZ10) h10 fa fa) rfl rfl fun v1 Z11 A' hzZ11 hq=>?_
 obtain ⟨rfl,rfl,rfl⟩:=hq
 refine ⟨?_,?_⟩
 ·exact Ev.pM2
 repeat first|refine go ?_|with_reducible intro _
 have e0:cmpE a a=0:=cmpE_zero.2 rfl
 refine Wk.caser 42 rfl (fun hc=>?_) (fun hc=>?_)
 rotate_left
 ·rw [e0] at hc;simp at hc
 clear hc
 repeat first|refine go ?_|with_reducible intro _
 refine Wk.callD rfl rfl (Spl.none _) (Cz.ora rfl) rfl rfl fun v8 Z12 A' hz12 hq=>?_
 obtain ⟨rfl,rfl,rfl⟩:=hq
 refine ⟨?_,?_⟩
 ·exact Ev.pM2
 repeat first|refine go ?_|with_reducible intro _
 exact Wk.ret ⟨_,Rs.tmp rfl Rs.nil,_,Sub.none _,rfl⟩
end Go.Proofs.J
namespace Go.Proofs.J
open Go Go.Ev
theorem wtv_elem {Z:Zone} {v:Value} (h:WtV Tryz.prog Z 31 v):∃ cs e d,v=.agg ⟨cs⟩∧ElR Z e cs∧e.In d:=by
 obtain ⟨⟨d,w⟩,s⟩:=h
 rw [Tryz.underlying31] at s
 obtain ⟨⟨cs⟩,rfl⟩:=s
 obtain ⟨e,he,hi⟩:=wt_elem d w
 exact ⟨cs,e,d,rfl,he,hi⟩
end Go.Proofs.J
namespace Go.Proofs.J
open Go Go.Ev
theorem wtv_lat {Z:Zone} {v:Value} (h:WtV Tryz.prog Z 27 v):∃ cs l,v=.agg ⟨cs⟩∧LatR Z cs l:=by
 obtain ⟨⟨d,w⟩,s⟩:=h
 rw [Tryz.underlying27] at s
 obtain ⟨⟨cs⟩,rfl⟩:=s
 obtain ⟨l,hl⟩:=wt_lattice w
 exact ⟨cs,l,rfl,hl⟩
end Go.Proofs.J
namespace Go.Proofs.J
open Go Go.Ev
theorem El.Fit.le {d d':Nat} {e:El} (h:e.In d) (k:d≤d'):e.Fit d':=(h.le k).fit
theorem ejoins_law (Z:Zone) (xs:List Value) (h:All2 (fun a t=>WtV Tryz.prog Z t a) xs [27,31,31]):Cz M (.func (.func 5) #[] #[]) xs Z [] (fun v _ _=>v=.bool true):=by
 cases h with
 | cons h1 h =>
  cases h with
  | cons h2 h =>
   cases h with
   | cons h3 h =>
    cases h
    obtain ⟨c1,l,rfl,r1⟩:=wtv_lat h1
    obtain ⟨c2,e2,d2,rfl,r2,i2⟩:=wtv_elem h2
    obtain ⟨c3,e3,d3,rfl,r3,i3⟩:=wtv_elem h3
    exact ElemJoins r1 r2 r3 (El.Fit.le i2 (Nat.le_max_left d2 d3)) (El.Fit.le i3 (Nat.le_max_right d2 d3))
end Go.Proofs.J
