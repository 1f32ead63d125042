/- HK -/
import Derived.Test.YtlmmgebealakkaaGreatDoorHA
import Derived.Test.YtlmmgebealakkaaGreatDoorPL
import Derived.Test.YtlmmgebealakkaaGreatDoorEA
import Derived.Test.YtlmmgebealakkaaGreatDoorEvF
set_option linter.unusedVariables false
set_option maxHeartbeats 4000000
set_option maxRecDepth 100000
set_option linter.unusedSimpArgs false
namespace Go.Proofs.J
open Go.Ev Go
theorem nanI {Z:Zone} {x:Int}:Cz M (.func (.func 150) #[] #[]) [.int .i64 x] Z [] (fun v' Z' A'=>v'=.bool false∧Z=Z'∧A'=[]):=by
 refine Cz.fn (f:=Tryz.f150) Ev.cM rfl rfl rfl _ rfl ?_
 refine Ev.gT ?_
 refine Wk.ret ⟨_,Rs.tmp rfl Rs.nil,_,Sub.none _,by simp [outOf],rfl,rfl⟩
theorem cmpInt {Z:Zone} {x y:Int}:Cz M (.func (.func 100) #[] #[]) [.int .i64 x,.int .i64 y] Z [] (fun v' Z' A'=>v'=.int .i64 (cmpI x y)∧Z=Z'∧A'=[]):=by
 refine Cz.fn (f:=Tryz.f100) Ev.cM rfl rfl rfl _ rfl ?_
 refine Ev.gT ?_
 refine Wk.call rfl rfl (Spl.none _) (nanI) rfl rfl rfl ?_
 rintro v' Z' A' hz ⟨rfl,rfl,rfl⟩
 refine Ev.gT ?_
 refine Wk.call rfl rfl (Spl.none _) (nanI) rfl rfl rfl ?_
 rintro v' Z' A' hz ⟨rfl,rfl,rfl⟩
 refine Ev.gT ?_
 refine Wk.cond rfl (fun hc=>?_) (fun hc=>?_)
 ·have h:x < y:=by simpa using hc
  refine Ev.gT ?_
  refine Wk.ret ⟨_,Rs.tmp rfl Rs.nil,_,Sub.none _,by simp [outOf,cmpI,h],rfl,rfl⟩
 ·have h:¬ x < y:=by simpa using hc
  refine Ev.gT ?_
  refine Wk.cond rfl (fun hc=>?_) (fun hc=>?_)
  ·have h2:y < x:=by simpa using hc
   refine Ev.gT ?_
   refine Wk.ret ⟨_,Rs.tmp rfl Rs.nil,_,Sub.none _,by simp [outOf,cmpI,h,h2],rfl,rfl⟩
  ·have h2:¬ y < x:=by simpa using hc
   refine Ev.gT ?_
   refine Wk.ret ⟨_,Rs.tmp rfl Rs.nil,_,Sub.none _,by simp [outOf,cmpI,h,h2],rfl,rfl⟩
theorem nanU {Z:Zone} {x:Int}:Cz M (.func (.func 149) #[] #[]) [.int .u8 x] Z [] (fun v' Z' A'=>v'=.bool false∧Z=Z'∧A'=[]):=by
 refine Cz.fn (f:=Tryz.f149) Ev.cM rfl rfl rfl _ rfl ?_
 refine Ev.gT ?_
 refine Wk.ret ⟨_,Rs.tmp rfl Rs.nil,_,Sub.none _,by simp [outOf],rfl,rfl⟩
theorem cmpU8 {Z:Zone} {x y:Int}:Cz M (.func (.func 99) #[] #[]) [.int .u8 x,.int .u8 y] Z [] (fun v' Z' A'=>v'=.int .i64 (cmpI x y)∧Z=Z'∧A'=[]):=by
 refine Cz.fn (f:=Tryz.f99) Ev.cM rfl rfl rfl _ rfl ?_
 refine Ev.gT ?_
 refine Wk.call rfl rfl (Spl.none _) (nanU) rfl rfl rfl ?_
 rintro v' Z' A' hz ⟨rfl,rfl,rfl⟩
 refine Ev.gT ?_
 refine Wk.call rfl rfl (Spl.none _) (nanU) rfl rfl rfl ?_
 rintro v' Z' A' hz ⟨rfl,rfl,rfl⟩
 refine Ev.gT ?_
 refine Wk.cond rfl (fun hc=>?_) (fun hc=>?_)
 ·have h:x < y:=by simpa using hc
  refine Ev.gT ?_
  refine Wk.ret ⟨_,Rs.tmp rfl Rs.nil,_,Sub.none _,by simp [outOf,cmpI,h],rfl,rfl⟩
 ·have h:¬ x < y:=by simpa using hc
  refine Ev.gT ?_
  refine Wk.cond rfl (fun hc=>?_) (fun hc=>?_)
  ·have h2:y < x:=by simpa using hc
   refine Ev.gT ?_
   refine Wk.ret ⟨_,Rs.tmp rfl Rs.nil,_,Sub.none _,by simp [outOf,cmpI,h,h2],rfl,rfl⟩
  ·have h2:¬ y < x:=by simpa using hc
   refine Ev.gT ?_
   refine Wk.ret ⟨_,Rs.tmp rfl Rs.nil,_,Sub.none _,by simp [outOf,cmpI,h,h2],rfl,rfl⟩
def orL:List Int→Int
 | []=>0
 | a::l=>orI a (orL l)
theorem orL_4 (a b c d:Int):orL [a,b,c,d]=orI a (orI b (orI c d)):=by
 simp only [orL]
 congr 3
 unfold orI;split
 ·rfl
 ·rename_i h;simp at h;exact h.symm
theorem orL_drop {l:List Int} {j:Nat} (h:j < l.length) (e:l[j]=0):orL (l.drop j)=orL (l.drop (j+1)):=by
 rw [List.drop_eq_getElem_cons h,orL,e];simp [orI]
theorem cmpOr {Z:Zone} {v:Value} {l:List Int} (s:Sl Z 1 v l.length (nums l)) (hn:l.length≤1000000) :
  Cz M (.func (.func 98) #[] #[]) [v] Z [] (fun v' Z' A'=>v'=.int .i64 (orL l)∧Z=Z'∧A'=[]):=by
 obtain ⟨q,c,rfl⟩:=s.form
 refine Cz.fn (f:=Tryz.f98) Ev.cM rfl rfl rfl _ rfl ?_
 refine Ev.gT ?_
 refine Wk.loop (fun mm L Z' A'=>∃ j:Nat,j≤l.length∧mm=l.length - j∧Z=Z'∧Sub A' []∧(orL l=orL (l.drop j))∧Kp L [(3,.int .i64 0),(6,.slice q l.length c),(7,.int .i64 l.length),(8,.int .i64 j)]) (l.length) ⟨0,Nat.zero_le _,rfl,rfl,Ev.sM,rfl,Ev.kM⟩ ?_
 rintro mm L Z' A' - ⟨j,hjj,rfl,rfl,hsub,invj,hk⟩
 refine Wk.drop hsub ?_
 refine Wk.kp hk ?_
 clear hk hsub
 refine Ev.gT ?_
 refine Wk.cond rfl (fun hc=>?_) (fun hc=>?_)
 ·have hlt:j < l.length:=by simp at hc;omega
  clear hc
  repeat first|refine go ?_|with_reducible intro _
  refine Wk.cond rfl (fun hc=>?_) (fun hc=>?_)
  ·have h:¬ l[j]=0:=by simpa using hc
   refine Ev.gT ?_
   refine Wk.ret ⟨_,Rs.tmp rfl Rs.nil,_,Sub.none _,by rw [invj,List.drop_eq_getElem_cons hlt,orL];simp [outOf,orI,h],rfl,rfl⟩
  ·have h:l[j]=0:=by simpa using hc
   clear hc
   refine Ev.gT ?_
   refine Wk.inv ⟨_,by omega,j+1,by omega,rfl,rfl,Ev.sM,(invj.trans (orL_drop hlt h)),Ev.kM⟩
 ·have hjn:j=l.length:=by simp at hc;omega
  subst hjn
  refine Ev.gT ?_
  refine Wk.ret ⟨_,Rs.tmp rfl Rs.nil,_,Sub.none _,by rw [invj];simp [outOf,orL],rfl,rfl⟩
theorem cmpL_drop {x y:List Int} {j:Nat} (hx:j < x.length) (hy:j < y.length):cmpL (x.drop j) (y.drop j)=orI (cmpI x[j] y[j]) (cmpL (x.drop (j+1)) (y.drop (j+1))):=by
 rw [List.drop_eq_getElem_cons hx,List.drop_eq_getElem_cons hy,cmpL]
theorem cmpInts {Z:Zone} {v w:Value} {x y:List Int} (s:Sl Z 1 v x.length (nums x)) (t:Sl Z 1 w y.length (nums y)) (hx:x.length≤17592186044416) (hy:y.length≤17592186044416) :
  Cz M (.func (.func 101) #[] #[]) [v,w] Z [] (fun v' Z' A'=>v'=.int .i64 (cmpL x y)∧Z=Z'∧A'=[]):=by
 obtain ⟨q,c,rfl⟩:=s.form
 obtain ⟨r,e,rfl⟩:=t.form
 refine Cz.fn (f:=Tryz.f101) Ev.cM rfl rfl rfl _ rfl ?_
 refine Ev.gT ?_
 refine Wk.loop (fun mm L Z' A'=>∃ j:Nat,j≤x.length∧mm=x.length - j∧Z=Z'∧Sub A' []∧(j≤y.length∧cmpL x y=cmpL (x.drop j) (y.drop j))∧Kp L [(0,.slice q x.length c),(1,.slice r y.length e),(9,.slice q x.length c),(10,.int .i64 x.length),(11,.int .i64 j)]) (x.length) ⟨0,Nat.zero_le _,rfl,rfl,Ev.sM,⟨Nat.zero_le _,rfl⟩,Ev.kM⟩ ?_
 rintro mm L Z' A' - ⟨j,hjj,rfl,rfl,hsub,invj,hk⟩
 refine Wk.drop hsub ?_
 refine Wk.kp hk ?_
 clear hk hsub
 obtain ⟨hjy,hinv⟩:=invj
 refine Ev.gT ?_
 refine Wk.cond rfl (fun hc=>?_) (fun hc=>?_)
 ·have hlt:j < x.length:=by simp at hc;omega
  clear hc
  repeat first|refine go ?_|with_reducible intro _
  refine Wk.cond rfl (fun hc=>?_) (fun hc=>?_)
  ·have h:j=y.length:=by simp at hc;omega
   subst h
   refine Ev.gT ?_
   refine Wk.ret ⟨_,Rs.tmp rfl Rs.nil,_,Sub.none _,by rw [hinv,List.drop_eq_getElem_cons hlt,List.drop_length,cmpL];simp [outOf],rfl,rfl⟩
  ·have hlt2:j < y.length:=by simp at hc;omega
   clear hc
   repeat first|refine go ?_|with_reducible intro _
   refine Wk.call rfl rfl (Spl.none _) (cmpInt) rfl rfl rfl ?_
   rintro v' Z' A' hz ⟨rfl,rfl,rfl⟩
   refine Ev.gT ?_
   refine Wk.cond rfl (fun hc=>?_) (fun hc=>?_)
   ·have h:¬ cmpI x[j] y[j]=0:=by simpa using hc
    refine Ev.gT ?_
    refine Wk.ret ⟨_,Rs.tmp rfl Rs.nil,_,Sub.none _,by rw [hinv,cmpL_drop hlt hlt2];simp [outOf,orI,h],rfl,rfl⟩
   ·have h:cmpI x[j] y[j]=0:=by simpa using hc
    clear hc
    refine Ev.gT ?_
    refine Wk.inv ⟨_,by omega,j+1,by omega,rfl,rfl,Ev.sM,(⟨hlt2,by rw [hinv,cmpL_drop hlt hlt2,h];simp [orI]⟩),Ev.kM⟩
 ·have hjn:j=x.length:=by simp at hc;omega
  subst hjn
  refine Ev.gT ?_
  refine Wk.cond rfl (fun hc=>?_) (fun hc=>?_)
  ·have h:x.length < y.length:=by simpa using hc
   refine Ev.gT ?_
   refine Wk.ret ⟨_,Rs.tmp rfl Rs.nil,_,Sub.none _,by rw [hinv,List.drop_length,List.drop_eq_getElem_cons h,cmpL];simp [outOf],rfl,rfl⟩
  ·have h:y.length=x.length:=by simp at hc;omega
   refine Ev.gT ?_
   refine Wk.ret ⟨_,Rs.tmp rfl Rs.nil,_,Sub.none _,by rw [hinv,List.drop_length,List.drop_of_length_le Ev.wM,cmpL];simp [outOf],rfl,rfl⟩
end Go.Proofs.J
namespace Go.Proofs.J
open Go.Ev Go
theorem cmpEs_drop {x y:List El} {j:Nat} (hx:j < x.length) (hy:j < y.length):cmpEs (x.drop j) (y.drop j)=orI (cmpE x[j] y[j]) (cmpEs (x.drop (j+1)) (y.drop (j+1))):=by
 rw [List.drop_eq_getElem_cons hx,List.drop_eq_getElem_cons hy,cmpEs]
theorem cmpFunc {Z:Zone} {v w fv:Value} {x y:List El} (s:ElsR Z v x) (t:ElsR Z w y) (hx:x.length≤2199023255552) (hy:y.length≤2199023255552)
  (hp:∀ i (h:i < x.length) (h':i < y.length) cs ct,ElR Z x[i] cs→ElR Z y[i] ct→Cz M fv [.agg ⟨cs⟩,.agg ⟨ct⟩] Z [] (fun v' Z' A'=>v'=.int .i64 (cmpE x[i] y[i])∧Z=Z'∧A'=[])) :
  Cz M (.func (.func 102) #[] #[]) [v,w,fv] Z [] (fun v' Z' A'=>v'=.int .i64 (cmpEs x y)∧Z=Z'∧A'=[]):=by
 obtain ⟨q,c,rfl⟩:=s.form
 obtain ⟨r,e,rfl⟩:=t.form
 obtain ⟨us,sx,rx⟩:=s
 obtain ⟨ut,sy,ry⟩:=t
 refine Cz.fn (f:=Tryz.f102) Ev.cM rfl rfl rfl _ rfl ?_
 refine Ev.gT ?_
 refine Wk.loop (fun mm L Z' A'=>∃ j:Nat,j≤x.length∧mm=x.length - j∧Z=Z'∧Sub A' []∧(j≤y.length∧cmpEs x y=cmpEs (x.drop j) (y.drop j))∧Kp L [(0,.slice q x.length c),(1,.slice r y.length e),(2,fv),(11,.slice q x.length c),(12,.int .i64 x.length),(13,.int .i64 j)]) (x.length) ⟨0,Nat.zero_le _,rfl,rfl,Ev.sM,⟨Nat.zero_le _,rfl⟩,Ev.kM⟩ ?_
 rintro mm L Z' A' - ⟨j,hjj,rfl,rfl,hsub,invj,hk⟩
 refine Wk.drop hsub ?_
 refine Wk.kp hk ?_
 clear hk hsub
 obtain ⟨hjy,hinv⟩:=invj
 refine Ev.gT ?_
 refine Wk.cond rfl (fun hc=>?_) (fun hc=>?_)
 ·have hlt:j < x.length:=by simp at hc;omega
  clear hc
  obtain ⟨k',n',x1,m1,y1,x2,m2,y2,gx,rrx⟩:=rx.get j hlt
  repeat first|refine go ?_|with_reducible intro _
  refine Wk.cond rfl (fun hc=>?_) (fun hc=>?_)
  ·have h:j=y.length:=by simp at hc;omega
   subst h
   refine Ev.gT ?_
   refine Wk.ret ⟨_,Rs.tmp rfl Rs.nil,_,Sub.none _,by rw [hinv,List.drop_eq_getElem_cons hlt,List.drop_length,cmpEs];simp [outOf],rfl,rfl⟩
  ·have hlt2:j < y.length:=by simp at hc;omega
   clear hc
   obtain ⟨k2,n2,z1,o1,w1,z2,o2,w2,gy,rry⟩:=ry.get j hlt2
   repeat first|refine go ?_|with_reducible intro _
   refine Wk.call rfl rfl (Spl.none _) (hp j hlt hlt2 _ _ rrx rry) rfl rfl rfl ?_
   rintro v' Z' A' hz ⟨rfl,rfl,rfl⟩
   refine Wk.dropr (Sub.none _) ?_
   refine Ev.gT ?_
   refine Wk.cond rfl (fun hc=>?_) (fun hc=>?_)
   ·have h:¬ cmpE x[j] y[j]=0:=by simpa using hc
    refine Ev.gT ?_
    refine Wk.ret ⟨_,Rs.tmp rfl Rs.nil,_,Sub.none _,by rw [hinv,cmpEs_drop hlt hlt2];simp [outOf,orI,h],rfl,rfl⟩
   ·have h:cmpE x[j] y[j]=0:=by simpa using hc
    clear hc
    refine Ev.gT ?_
    refine Wk.inv ⟨_,by omega,j+1,by omega,rfl,rfl,Ev.sM,(⟨hlt2,by rw [hinv,cmpEs_drop hlt hlt2,h];simp [orI]⟩),Ev.kM⟩
 ·have hjn:j=x.length:=by simp at hc;omega
  subst hjn
  refine Ev.gT ?_
  refine Wk.cond rfl (fun hc=>?_) (fun hc=>?_)
  ·have h:x.length < y.length:=by simpa using hc
   refine Ev.gT ?_
   refine Wk.ret ⟨_,Rs.tmp rfl Rs.nil,_,Sub.none _,by rw [hinv,List.drop_length,List.drop_eq_getElem_cons h,cmpEs];simp [outOf],rfl,rfl⟩
  ·have h:y.length=x.length:=by simp at hc;omega
   refine Ev.gT ?_
   refine Wk.ret ⟨_,Rs.tmp rfl Rs.nil,_,Sub.none _,by rw [hinv,List.drop_length,List.drop_of_length_le Ev.wM,cmpEs];simp [outOf],rfl,rfl⟩
theorem compareE:∀ (d d':Nat) {Z:Zone} {ca cb:List Value} {a b:El},ElR Z a ca→ElR Z b cb→a.Fit d→b.Fit d' →
  Cz M (.func (.func 68) #[] #[]) [.agg ⟨ca⟩,.agg ⟨cb⟩] Z [] (fun v' Z' A'=>v'=.int .i64 (cmpE a b)∧Z=Z'∧A'=[])
 | 0,d',Z,ca,cb,a,b,ha,hb,fa,fb=>fa.pos.elim
 | d+1,0,Z,ca,cb,a,b,ha,hb,fa,fb=>fb.pos.elim
 | d+1,d'+1,Z,ca,cb,a,b,ha,hb,fa,fb=>by
  refine Cz.shrink ?_
  obtain ⟨q1,q2,q3,q4,ua,rfl,ak,as_,aL⟩:=ha.form
  obtain ⟨r1,r2,r3,r4,ub,rfl,bk,bs_,bL⟩:=hb.form
  have t1:=fa.sm
  have t2:=fb.sm
  refine Cz.fn (f:=Tryz.f68) Ev.cM rfl rfl rfl _ rfl ?_
  repeat first|refine go ?_|with_reducible intro _
  refine Wk.drawr (ms:=[0,1,0,4,15,0,32,0,128,511,0,1024,0,4096,16383,0,32768,0,131072,524287,1048575,2097151,4194303]) (l:=[0,1,2,3,5,6,7,8,10,11,12,13,15,16,17,18,4,9,14,19,20,21,22]) Ev.cM Ev.cM Ev.cM rfl ?_
  refine Ev.gT ?_
  refine Wk.callD rfl rfl (Spl.none _) cmpU8 rfl rfl fun v9 Z9 A' hz9 hq=>?_
  obtain ⟨rfl,rfl,rfl⟩:=hq
  refine ⟨?_,?_⟩
  ·exact Ev.pM2
  refine Ev.gT ?_
  refine Wk.callD rfl rfl (Spl.none _) cmpInt rfl rfl fun v9 Z9 A' hz9 hq=>?_
  obtain ⟨rfl,rfl,rfl⟩:=hq
  refine ⟨?_,?_⟩
  ·exact Ev.pM2
  refine Ev.gT ?_
  refine Wk.callD rfl rfl (Spl.none _) (cmpInts ak bk t1.1 t2.1) rfl rfl fun v9 Z9 A' hz9 hq=>?_
  obtain ⟨rfl,rfl,rfl⟩:=hq
  refine ⟨?_,?_⟩
  ·exact Ev.pM2
  refine Ev.gT ?_
  refine Wk.callD rfl rfl (Spl.none _) (cmpFunc ⟨_,as_,aL⟩ ⟨_,bs_,bL⟩ t1.2.1 t2.2.1 fun i h h' cs ct hs ht=>compareE d d' hs ht (fa.kid h) (fb.kid h')) rfl rfl fun v9 Z9 A' hz9 hq=>?_
  obtain ⟨rfl,rfl,rfl⟩:=hq
  refine ⟨?_,?_⟩
  ·exact Ev.pM2
  refine Ev.gT ?_
  refine Wk.bs (cs:=[.int .i64 _,.int .i64 _,.int .i64 _,.int .i64 _]) rfl rfl rfl rfl rfl rfl rfl fun b25=>?_
  first|refine Wk.freezer Rem.head fun Z1 e1 h25=>?_|refine Wk.freeze Rem.head fun Z1 e1 h25=>?_
  have s25:Sl Z1 1 (.slice (some ⟨b25,0,none⟩) 4 4) 4 (nums [cmpI a.kind b.kind,cmpI a.n b.n,cmpL a.keys b.keys,cmpEs a.kids b.kids]):=.inr ⟨b25,0,4,_,_,_,rfl,Nat.le_refl _,h25,rfl,.inl rfl⟩
  refine Ev.gT ?_
  refine Wk.call rfl rfl (Spl.none _) (cmpOr (l:=[cmpI a.kind b.kind,cmpI a.n b.n,cmpL a.keys b.keys,cmpEs a.kids b.kids]) s25 (by simp)) Ev.cM rfl rfl ?_
  rintro v' Z' A' hz ⟨rfl,rfl,rfl⟩
  refine Ev.gT ?_
  refine Wk.ret ⟨_,Rs.tmp rfl Rs.nil,_,Sub.none _,?_,rfl⟩
  rw [orL_4,cmpE_eq];rfl
end Go.Proofs.J
namespace Go.Proofs.J
open Go.Ev Go
theorem CSE_ok {l:Lat} (ht:l.Th) (h:CSE l.1 l.2=0):TsOk l.1∧l.2.Ok:=by
 obtain ⟨z1,z2,z3,z4⟩:=CSE_zero h
 refine ⟨⟨?_,z2,ht.chk.2.1,ht.chk.1⟩,z3⟩
 intro t htm
 unfold CSE at h
 split at h
 ·cases h
 split at h
 ·cases h
 split at h
 ·cases h
 split at h
 ·cases h
 ·rename_i o;exact Classical.not_not.1 o t htm
theorem ElsE_zero {l:Lat} {els:List El} (h:ElsE l els=0):CSE l.1 l.2=0∧∀ e∈els,IsW l.1 4 l.2 e∧¬ e.Great:=by
 unfold ElsE at h
 split at h
 ·rename_i h1;exact absurd h h1
 ·rename_i h1
  split at h
  ·rename_i h2
   refine ⟨Classical.not_not.1 h1,fun e he=>?_⟩
   obtain ⟨i,hi,rfl⟩:=List.getElem_of_mem he
   exact IsE_iff.1 (h2 i hi)
  ·cases h
theorem ElsR_two {Z:Zone} {b:Nat} {a e:El} {ca ce:List Value} (ha:ElR Z a ca) (he:ElR Z e ce) (hb:Z b=some (.cells (ca++ce) true 0)):ElsR Z (.slice (some ⟨b,0,none⟩) 2 2) [a,e]:=by
 have hL:=ElRL.snoc he (ElRL.snoc ha (l:=[]) (us:=[]) (by simp [ElRL]))
 have hl:=hL.length
 refine ⟨_,.inr ⟨b,0,2,_,_,_,rfl,Nat.le_refl _,hb,?_,.inl rfl⟩,hL⟩
 unfold getCells
 simp only [List.nil_append,List.length_append,List.length_cons,List.length_nil] at hl
 rw [if_pos (by simp;omega)]
 rw [List.drop_zero,List.take_of_length_le (by simp;omega)]
 simp
theorem Fit2 {a b:El} {d:Nat} (fa:a.Fit d) (fb:b.Fit d):∀ i (h:i < [a,b].length),([a,b][i]).Fit d:=by
 intro i h
 rcases (by simp at h;omega:i=0∨i=1) with rfl|rfl
 ·exact fa
 ·exact fb
end Go.Proofs.J
namespace Go.Proofs.J
open Go.Ev Go
theorem isBelow_e {ts:List Tbl} (T:TsOk ts) (d:Nat) {Z:Zone} {cl sc ca cb:List Value} {l:Lat} {s:Shp} {a b:El} (hts:l.1=ts) (hl:LatR Z cl l) (hs:ShR Z s sc) (ha:ElR Z a ca) (hb:ElR Z b cb) (wa:IsW ts d s a) (wb:IsW ts d s b) (ga:¬ a.Great) (gb:¬ b.Great) (so:s.Ok) :
  Cz M (.func (.func 73) #[] #[]) [.agg ⟨cl⟩,.agg ⟨sc⟩,.agg ⟨ca⟩,.agg ⟨cb⟩] Z [] (fun v' Z' A'=>Bis v' (LeE ts d s a b)∧Z=Z'∧A'=[]):=by
 refine Cz.shrink ?_
 have hl0:=hl
 have hs0:=hs
 have ha0:=ha
 have hb0:=hb
 obtain ⟨l1,l2,l3,l4,rfl,hT,_⟩:=hl.form
 obtain ⟨p1,p2,usk,rfl,hsk,hsL⟩:=hs.form
 obtain ⟨q1,q2,q3,q4,ua,rfl,ak,as_,aL⟩:=ha.form
 obtain ⟨r1,r2,r3,r4,ub,rfl,bk,bs_,bL⟩:=hb.form
 refine Cz.fn (f:=Tryz.f73) Ev.cM rfl rfl rfl _ rfl ?_
 repeat first|refine go ?_|with_reducible intro _
 refine Wk.drawr (ms:=[0,0,0,0,15,0,63,127,255]) (l:=[0,1,2,3,5,4,6,7,8]) Ev.cM Ev.cM Ev.cM rfl ?_
 refine Ev.gT ?_
 refine Wk.callD rfl rfl (Spl.none _) (join_e T d hts hl0 hs0 ha0 hb0 wa wb ga gb so) rfl rfl fun v9 Z9 A' hz9 hq=>?_
 obtain ⟨cs,rfl,hR,rfl⟩:=hq
 refine ⟨?_,?_⟩
 ·exact Ev.pM2
 refine Ev.gT ?_
 refine Wk.callD rfl rfl (Spl.none _) (compareE d d hR (hb0.mono hz9) (joinE_fit T wa wb ga gb) (wb.fit T.ok gb)) rfl rfl fun v9 Z9 A' hz9 hq=>?_
 obtain ⟨rfl,rfl,rfl⟩:=hq
 refine ⟨?_,?_⟩
 ·exact Ev.pM2
 refine Ev.gT ?_
 refine Wk.ret ⟨_,Rs.tmp rfl Rs.nil,_,Sub.none _,Bis.of ?_,rfl⟩
 simp only [beq_iff_eq]
 exact cmpE_zero
theorem rIsBelow_e {ts:List Tbl} (T:TsOk ts) (d:Nat) {Z:Zone} {vt:Value} {sc ca cb:List Value} {s:Shp} {a b:El} (hl:TbsR Z vt ts) (hs:ShR Z s sc) (ha:ElR Z a ca) (hb:ElR Z b cb) (wa:IsW ts d s a) (wb:IsW ts d s b) (ga:¬ a.Great) (gb:¬ b.Great) (so:s.Ok) :
  Cz M (.func (.func 76) #[] #[]) [vt,.agg ⟨sc⟩,.agg ⟨ca⟩,.agg ⟨cb⟩] Z [] (fun v' Z' A'=>Bis v' (LeE ts d s a b)∧Z=Z'∧A'=[]):=by
 refine Cz.shrink ?_
 have hl0:=hl
 have hs0:=hs
 have ha0:=ha
 have hb0:=hb
 obtain ⟨l1,l2,rfl⟩:=hl.form
 obtain ⟨p1,p2,usk,rfl,hsk,hsL⟩:=hs.form
 obtain ⟨q1,q2,q3,q4,ua,rfl,ak,as_,aL⟩:=ha.form
 obtain ⟨r1,r2,r3,r4,ub,rfl,bk,bs_,bL⟩:=hb.form
 refine Cz.fn (f:=Tryz.f76) Ev.cM rfl rfl rfl _ rfl ?_
 repeat first|refine go ?_|with_reducible intro _
 refine Wk.drawr (ms:=[0,0,0,0,15,0,63,127]) (l:=[0,1,2,3,5,4,6,7]) Ev.cM Ev.cM Ev.cM rfl ?_
 refine Ev.gT ?_
 refine Wk.callD rfl rfl (Spl.none _) (rJoinOf T d hl0 hs0 ha0 hb0 wa wb ga gb so) rfl rfl fun v9 Z9 A' hz9 hq=>?_
 obtain ⟨cs,rfl,hR,rfl⟩:=hq
 refine ⟨?_,?_⟩
 ·exact Ev.pM2
 refine Ev.gT ?_
 refine Wk.callD rfl rfl (Spl.none _) (sameEl d (joinE_fit T wa wb ga gb) hR (hb0.mono hz9)) rfl rfl fun v9 Z9 A' hz9 hq=>?_
 obtain ⟨⟨r,rfl,hr⟩,rfl,rfl⟩:=hq
 refine ⟨?_,?_⟩
 ·exact Ev.pM2
 refine Ev.gT ?_
 refine Wk.ret ⟨_,Rs.tmp rfl Rs.nil,_,Sub.none _,Bis.of ?_,rfl⟩
 exact hr
end Go.Proofs.J
namespace Go.Proofs.J
open Go.Ev Go
theorem indexOwn {Z:Zone} {b n cp:Nat} {l:List Int} {fv:Value} (p:Int→Prop) (hn:l.length=n) (hs:n≤1000000)
  (hp:∀ x∈l,Cz M fv [.int .i64 x] Z [] (fun v' Z' A'=>Bis v' (p x)∧Z=Z'∧A'=[])) :
  Cz M (.func (.func 191) #[] #[]) [.slice (some ⟨b,0,none⟩) n cp,fv] Z [olp b 1 (.slice (some ⟨b,0,none⟩) n cp) n (nums l)] (fun v' Z' A'=>(∃ r:Int,v'=.int .i64 r∧((∃ (i:Nat) (h:i < l.length),r=i∧p l[i]∧∀ j (h:j < l.length),j < i→¬ p l[j])∨(r=-1∧∀ x∈l,¬ p x)))∧Z=Z'∧A'=[olp b 1 (.slice (some ⟨b,0,none⟩) n cp) n (nums l)]):=by
 refine Cz.fn (f:=Tryz.f191) Ev.cM rfl rfl rfl _ rfl ?_
 repeat first|refine go ?_|with_reducible intro _
 refine Wk.loop (fun mm L Z' A'=>∃ j:Nat,j≤n∧mm=n - j∧Z=Z'∧A'=[olp b 1 (.slice (some ⟨b,0,none⟩) n cp) n (nums l)]∧(∀ i (h:i < l.length),i < j→¬ p l[i])∧Kp L [(0,.slice (some ⟨b,0,none⟩) n cp),(1,fv),(6,.slice (some ⟨b,0,none⟩) n cp),(7,.int .i64 n),(8,.int .i64 j)]) n ⟨0,Nat.zero_le _,rfl,rfl,rfl,fun _ _ h=>by omega,Ev.kM⟩ ?_
 rintro mm L Z' A' - ⟨j,hj,rfl,rfl,rfl,hno,hk⟩
 refine Wk.kp hk ?_
 clear hk
 repeat first|refine go ?_|with_reducible intro _
 refine Wk.cond rfl (fun hc=>?_) (fun hc=>?_)
 ·have hlt:j < n:=by simp at hc;omega
  clear hc
  repeat first|refine go ?_|with_reducible intro _
  refine Wk.iaV j rfl rfl rfl rfl rfl rfl rfl hlt ?_
  refine Wk.loadOlp (cs:=[_]) rfl rfl Ev.rM (nums_get (i:=j) Ev.wM Ev.wM) rfl rfl rfl ?_
  repeat first|refine go ?_|with_reducible intro _
  refine Wk.call rfl rfl (Spl.none _) (hp l[j] (List.getElem_mem _)) rfl rfl rfl ?_
  rintro v' Z' A' hz ⟨⟨r,rfl,hr⟩,rfl,rfl⟩
  repeat first|refine go ?_|with_reducible intro _
  refine Wk.cond rfl (fun hc=>?_) (fun hc=>?_)
  ·repeat first|refine go ?_|with_reducible intro _
   refine Wk.ret ⟨_,Rs.tmp rfl Rs.nil,_,Sub.refl _,⟨_,rfl,.inl ⟨j,by omega,rfl,hr.1 hc,hno⟩⟩,rfl,rfl⟩
  ·have hnp:¬ p l[j]:=fun h=>by rw [hr.2 h] at hc;cases hc
   clear hc
   repeat first|refine go ?_|with_reducible intro _
   refine Wk.inv ⟨_,by omega,j+1,hlt,rfl,rfl,rfl,fun i h hi=>?_,Ev.kM⟩
   by_cases e:i=j
   ·subst e;exact hnp
   ·exact hno i h Ev.wM
 ·have hjn:j=n:=by simp at hc;omega
  repeat first|refine go ?_|with_reducible intro _
  refine Wk.ret ⟨_,Rs.tmp rfl Rs.nil,_,Sub.refl _,⟨_,rfl,.inr ⟨rfl,fun x hx=>?_⟩⟩,rfl,rfl⟩
  obtain ⟨i,hi,rfl⟩:=List.getElem_of_mem hx
  exact hno i hi Ev.wM
open Classical in
noncomputable def flt (p:Int→Prop) (l:List Int):List Int:=l.filter fun x=>decide (¬ p x)
theorem flt_all {p:Int→Prop} {l:List Int} (h:∀ x∈l,¬ p x):flt p l=l:=by
 unfold flt;rw [List.filter_eq_self];intro x hx;simp [h x hx]
theorem flt_snoc {p:Int→Prop} {l:List Int} {x:Int}:(¬ p x→flt p (l++[x])=flt p l++[x])∧(p x→flt p (l++[x])=flt p l):=by
 unfold flt
 constructor
 ·intro h;rw [List.filter_append];simp [h]
 ·intro h;rw [List.filter_append];simp [h]
theorem deleteOwn {Z:Zone} {b n cp:Nat} {l:List Int} {fv:Value} (p:Int→Prop) (hn:l.length=n) (hs:n≤1000000) (hcap:n≤cp)
  (hp:∀ x∈l,Cz M fv [.int .i64 x] Z [] (fun v' Z' A'=>Bis v' (p x)∧Z=Z'∧A'=[])) :
  Cz M (.func (.func 201) #[] #[]) [.slice (some ⟨b,0,none⟩) n cp,fv] Z [olp b 1 (.slice (some ⟨b,0,none⟩) n cp) n (nums l)] (fun v' Z' A'=>Z=Z'∧A'=[ol 1 v' (flt p l).length (nums (flt p l))]):=by
 refine Cz.fn (f:=Tryz.f201) Ev.cM rfl rfl rfl _ rfl ?_
 repeat first|refine go ?_|with_reducible intro _
 refine Wk.call rfl rfl (.l .nil) (indexOwn p hn hs hp) rfl rfl rfl ?_
 rintro v' Z' A' hz ⟨⟨r,rfl,hr⟩,rfl,rfl⟩
 rcases hr with ⟨i,hi,rfl,hpi,hfirst⟩|⟨rfl,hno⟩
 ·have h0:flt p (l.take (i+1))=l.take i:=by
   rw [List.take_succ_eq_append_getElem hi,flt_snoc.2 hpi]
   refine flt_all fun x hx=>?_
   obtain ⟨y,hy,rfl⟩:=List.getElem_of_mem hx
   rw [List.length_take] at hy
   rw [List.getElem_take]
   exact hfirst y Ev.wM Ev.wM
  repeat first|refine go ?_|with_reducible intro _
  refine Wk.loop (fun mm L Z' A'=>∃ (j k:Nat) (a:List Int),j≤n∧k < j∧mm=n - j∧Z=Z'∧A'=[olp b 1 (.slice (some ⟨b,0,none⟩) n cp) n (nums a)]∧a.length=n∧a.take k=flt p (l.take j)∧(∀ x,j≤x→a[x]?=l[x]?)∧Kp L [(0,.slice (some ⟨b,0,none⟩) n cp),(1,fv),(5,.int .i64 k),(6,.int .i64 j)]) (n - (i+1)) ⟨i+1,i,l,by omega,by omega,rfl,rfl,rfl,hn,h0.symm,fun _ _=>rfl,Ev.kM⟩ ?_
  rintro mm L Z' A' - ⟨j,k,a,hj,hkj,rfl,rfl,rfl,hal,hak,hax,hk⟩
  refine Wk.kp hk ?_
  clear hk
  repeat first|refine go ?_|with_reducible intro _
  refine Wk.cond rfl (fun hc=>?_) (fun hc=>?_)
  ·have hlt:j < n:=by simp at hc;omega
   clear hc
   have e1:a[j]?=l[j]?:=hax j (Nat.le_refl _)
   rw [List.getElem?_eq_getElem Ev.wM,List.getElem?_eq_getElem Ev.wM] at e1
   have e2:=Option.some.inj e1
   repeat first|refine go ?_|with_reducible intro _
   refine Wk.iaV j rfl rfl rfl rfl rfl rfl rfl hlt ?_
   refine Wk.loadOlp (cs:=[_]) rfl rfl Ev.rM (nums_get (i:=j) Ev.wM Ev.wM) rfl rfl rfl ?_
   rw [e2]
   repeat first|refine go ?_|with_reducible intro _
   refine Wk.call rfl rfl (Spl.none _) (hp l[j] (List.getElem_mem _)) rfl rfl rfl ?_
   rintro v' Z' A' hz ⟨⟨r,rfl,hr⟩,rfl,rfl⟩
   repeat first|refine go ?_|with_reducible intro _
   refine Wk.cond rfl (fun hc=>?_) (fun hc=>?_)
   ·have hnp:¬ p l[j]:=fun h=>by rw [hr.2 h] at hc;cases hc
    clear hc
    repeat first|refine go ?_|with_reducible intro _
    refine Wk.iaV k rfl rfl rfl rfl rfl rfl rfl Ev.wM ?_
    refine Wk.storeOlp rfl rfl rfl rfl rfl Ev.rM (nums_set (i:=k) Ev.wM Ev.wM) Ev.cM rfl ?_
    repeat first|refine go ?_|with_reducible intro _
    refine Wk.inv ⟨_,by omega,j+1,k+1,_,hlt,by omega,rfl,rfl,rfl,by simpa using hal,?_,fun x hx=>?_,Ev.kM⟩
    ·have q1:flt p (l.take (j+1))=flt p (l.take j)++[l[j]]:=by rw [List.take_succ_eq_append_getElem Ev.wM,flt_snoc.1 hnp]
     rw [q1,←hak,List.take_succ_eq_append_getElem (by simp;omega),List.take_set,List.set_eq_of_length_le (by simp;omega)]
     simp
    ·rw [List.getElem?_set_ne Ev.wM];exact hax x Ev.wM
   ·have hyp:p l[j]:=hr.1 (by simpa using hc)
    clear hc
    repeat first|refine go ?_|with_reducible intro _
    refine Wk.inv ⟨_,by omega,j+1,k,a,hlt,by omega,rfl,rfl,rfl,hal,?_,fun x hx=>hax x Ev.wM,Ev.kM⟩
    rw [List.take_succ_eq_append_getElem Ev.wM,flt_snoc.2 hyp,hak]
  ·have hjn:j=n:=by simp at hc;omega
   subst hjn
   clear hc
   have hlj:l.take j=l:=List.take_of_length_le Ev.wM
   rw [hlj] at hak
   have hil:(flt p l).length=k:=by rw [←hak,List.length_take];omega
   repeat first|refine go ?_|with_reducible intro _
   refine Wk.v (v:=.slice (some ⟨b,0+k*1,none⟩) (j - k) (cp - k)) rfl rfl rfl (Rd.sliceOlp (l:=k) (h:=j) (m:=cp) Ev.rM rfl rfl rfl rfl rfl rfl rfl rfl rfl (abounds_lo Ev.wM hcap)) ?_
   repeat first|refine go ?_|with_reducible intro _
   refine Wk.e0 rfl rfl (Ef.clearOlp rfl rfl rfl rfl rfl Ev.rM rfl (nums_clear (k:=k) Ev.wM Ev.wM) ⟨PnAll.nil,?_⟩)
   repeat first|refine go ?_|with_reducible intro _
   refine Wk.v (v:=.slice (some ⟨b,0+0*1,none⟩) (k - 0) (cp - 0)) rfl rfl rfl (Rd.sliceOlp (l:=0) (h:=k) (m:=cp) Ev.rM rfl rfl rfl rfl rfl rfl rfl rfl rfl (abounds_hi Ev.wM hcap)) ?_
   repeat first|refine go ?_|with_reducible intro _
   refine Wk.alter (C:=[ol 1 (.slice (some ⟨b,0,none⟩) k cp) k ((nums (a.take k++List.replicate (j - k) 0)).take (k*1))]) Ev.rM (fun s h=>Sat.one (olp.short Ev.wM h)) ?_
   refine Wk.ret ⟨_,Rs.tmp rfl Rs.nil,_,Sub.refl _,rfl,?_⟩
   have e3:(nums (a.take k++List.replicate (j - k) 0)).take (k*1)=nums (flt p l):=by
    rw [Nat.mul_one,←hak,nums_append,List.take_append_of_le_length (by simp;omega),List.take_of_length_le (by simp;omega)]
   rw [e3,hil]
   simp [outOf]
 ·have h0:=flt_all hno
  repeat first|refine go ?_|with_reducible intro _
  refine Wk.alter (C:=[ol 1 (.slice (some ⟨b,0,none⟩) n cp) n (nums l)]) Ev.rM (fun s h=>Sat.one (olp.ol h)) ?_
  refine Wk.ret ⟨_,Rs.tmp rfl Rs.nil,_,Sub.refl _,rfl,?_⟩
  rw [h0,hn]
  simp [outOf]
end Go.Proofs.J
namespace Go.Proofs.J
open Go.Ev Go
theorem containsI {Z:Zone} {v fv:Value} {us:List Value} {n:Nat} (p:Nat→Prop) (s:Sl Z 1 v n us) (hn:n≤1000000)
  (hp:∀ i u,i < n→us[i]?=some u→Cz M fv [u] Z [] (fun v' Z' A'=>Bis v' (p i)∧Z=Z'∧A'=[])) :
  Cz M (.func (.func 199) #[] #[]) [v,fv] Z [] (fun v' Z' A'=>Bis v' (∃ i,i < n∧p i)∧Z=Z'∧A'=[]):=by
 refine Cz.fn (f:=Tryz.f199) Ev.cM rfl rfl rfl _ rfl ?_
 repeat first|refine go ?_|with_reducible intro _
 refine Wk.call rfl rfl (Spl.none _) (indexFnI p s hn hp) rfl rfl rfl ?_
 rintro v' Z' A' hz ⟨⟨r,rfl,hr⟩,rfl,rfl⟩
 repeat first|refine go ?_|with_reducible intro _
 refine Wk.ret ⟨_,Rs.tmp rfl Rs.nil,_,Sub.none _,Bis.of ?_,rfl,rfl⟩
 rcases hr with ⟨i,rfl,hi,hpi⟩|⟨rfl,hno⟩
 ·simp;exact ⟨i,hi,hpi⟩
 ·simp;exact hno
theorem isPrime_ {Z:Zone} {bt:Nat} {t:Tbl} (h:TabR Z bt t) (hL:t.Lat) (p:Nat) :
  Cz M (.func (.func 165) #[] #[]) [.pointer (some ⟨bt,0,none⟩),.int .i64 p] Z [] (fun v' Z' A'=>Bis v' (t.Prime p)∧Z=Z'∧A'=[]):=by
 refine Cz.shrink ?_
 refine Cz.fn (f:=Tryz.f165) Ev.cM rfl rfl rfl _ rfl ?_
 repeat first|refine go ?_|with_reducible intro _
 refine Wk.rangePairs (nn:=t.elems.length) (fun a b=>t.jn a b=p→a=p∨b=p) (fun _ _ _=>rfl) rfl (pairs_ h) rfl (by simp) (fun a b Z1 l ha hb hz=>?_) (fun Z' hz hall=>?_)
 ·repeat first|refine go ?_|with_reducible intro _
  refine Wk.done ⟨rfl,rfl,rfl,?_⟩
  repeat first|refine go ?_|with_reducible intro _
  refine Wk.call rfl rfl (Spl.none _) (join_ (h.mono hz) a b ha hb) rfl rfl rfl ?_
  rintro v' Z' A' hz2 ⟨⟨x,f,rfl,hf1,hf2⟩,rfl,rfl⟩
  have:f=true:=by
   cases f
   ·exact absurd (hL.ex ha hb) (hf2 rfl)
   ·rfl
  subst this
  obtain ⟨c,rfl,hc⟩:=hf1 rfl
  obtain rfl:=hc.eq hL ha hb
  repeat first|refine go ?_|with_reducible intro _
  refine Wk.caser 23 rfl (fun h1=>?_) (fun h1=>?_)
  ·have h1:t.jn a b=p:=by simp at h1;omega
   repeat first|refine go ?_|with_reducible intro _
   refine Wk.caser 28 rfl (fun h2=>?_) (fun h2=>?_)
   ·have h2:¬ a=p:=by simp at h2;omega
    repeat first|refine go ?_|with_reducible intro _
    refine Wk.cond rfl (fun h3=>?_) (fun h3=>?_)
    ·have h3:¬ b=p:=by simp at h3;omega
     repeat first|refine go ?_|with_reducible intro _
     refine Wk.ret (.inr ⟨by simp,_,Rem.head,post_ret ?_⟩)
     refine ⟨_,Rs.cell rfl rfl Ev.hM rfl rfl Rs.nil,_,Sub.none _,Bis.of ?_,rfl⟩
     simp only [Bool.false_eq_true,false_iff]
     rintro ⟨_,hall⟩
     rcases hall a b ha hb h1 with q|q
     ·exact h2 q
     ·exact h3 q
    ·have h3:b=p:=by simp at h3;omega
     repeat first|refine go ?_|with_reducible intro _
     exact Wk.done (.inl ⟨rfl,rfl,fun _=>.inr h3⟩)
   ·have h2:a=p:=by simp at h2;omega
    repeat first|refine go ?_|with_reducible intro _
    exact Wk.done (.inl ⟨rfl,rfl,fun _=>.inl h2⟩)
  ·have h1:¬ t.jn a b=p:=by simp at h1;omega
   repeat first|refine go ?_|with_reducible intro _
   exact Wk.done (.inl ⟨rfl,rfl,fun q=>absurd q h1⟩)
 ·repeat first|refine go ?_|with_reducible intro _
  refine Wk.ret ⟨_,Rs.cell rfl rfl Ev.hM rfl rfl Rs.nil,_,Sub.none _,Bis.of ?_,rfl⟩
  simp only [bne_iff_ne,ne_eq]
  exact ⟨fun q=>⟨by omega,hall⟩,fun q=>by have:=q.1;omega⟩
theorem greatest11 {Z:Zone} {bt b1 b2:Nat} {t:Tbl} (h:TabR Z bt t) (a b:Nat) (ha:a < t.elems.length) (hb:b < t.elems.length) (h1:Z b1=some (.cells [.int .i64 a] true 0)) (h2:Z b2=some (.cells [.pointer (some ⟨bt,0,none⟩)] true 0)) :
  Cz M (.func (.func 200) #[] ⟨[.pointer (some ⟨b1,0,none⟩),.pointer (some ⟨b2,0,none⟩)]⟩) [.int .i64 b] Z [] (fun v' Z' A'=>Bis v' (a≠b∧t.Bl a b)∧Z=Z'∧A'=[]):=by
 refine Cz.fn (f:=Tryz.f200) Ev.cM rfl rfl rfl _ rfl ?_
 repeat first|refine go ?_|with_reducible intro _
 refine Wk.caser 8 rfl (fun hc=>?_) (fun hc=>?_)
 ·have hne:a≠b:=by simp at hc;omega
  repeat first|refine go ?_|with_reducible intro _
  refine Wk.call rfl rfl (Spl.none _) (isBelow h a b ha hb) rfl rfl rfl ?_
  rintro v' Z' A' hz ⟨⟨r,rfl,hr⟩,rfl,rfl⟩
  repeat first|refine go ?_|with_reducible intro _
  refine Wk.ret ⟨_,Rs.tmp rfl Rs.nil,_,Sub.none _,Bis.of (by rw [hr];simp [hne]),rfl,rfl⟩
 ·have hne:a=b:=by simp at hc;omega
  repeat first|refine go ?_|with_reducible intro _
  refine Wk.ret ⟨_,Rs.tmp rfl Rs.nil,_,Sub.none _,Bis.of (by simp [hne]),rfl,rfl⟩
theorem greatest1 {Z:Zone} {bt b1 b2:Nat} {t:Tbl} (h:TabR Z bt t) {vl:Value} {l:List Nat} (sl:Sl Z 1 vl l.length (nats l)) (hl:l.length≤1000000) (hin:∀ a∈l,a < t.elems.length) (a:Nat) (ha:a < t.elems.length) (h1:Z b1=some (.cells [vl] true 0)) (h2:Z b2=some (.cells [.pointer (some ⟨bt,0,none⟩)] true 0)) :
  Cz M (.func (.func 198) #[] ⟨[.pointer (some ⟨b1,0,none⟩),.pointer (some ⟨b2,0,none⟩)]⟩) [.int .i64 a] Z [] (fun v' Z' A'=>Bis v' (∃ b∈l,a≠b∧t.Bl a b)∧Z=Z'∧A'=[]):=by
 refine Cz.shrink ?_
 refine Cz.fn (f:=Tryz.f198) Ev.cM rfl rfl rfl _ rfl ?_
 repeat first|refine go ?_|with_reducible intro _
 first|refine Wk.freezer Rem.head fun Z1 e1 h3=>?_|refine Wk.freeze Rem.head fun Z1 e1 h3=>?_
 refine Wk.call rfl rfl (Spl.none _) (containsI (fun i=>∃ h:i < l.length,a≠l[i]∧t.Bl a l[i]) (sl.mono e1) hl (fun i u hi hu=>by
  rw [nats_get hi] at hu
  obtain rfl:=Option.some.inj hu
  exact (greatest11 (h.mono e1) a l[i] ha (hin _ (List.getElem_mem hi)) h3 (e1 _ _ h2)).mono fun v' Z' A' _ q=>⟨q.1.imp ⟨fun h=>⟨hi,h⟩,fun ⟨_,h⟩=>h⟩,q.2⟩)) rfl rfl rfl ?_
 rintro v' Z' A' hz ⟨hb,rfl,rfl⟩
 repeat first|refine go ?_|with_reducible intro _
 refine Wk.ret ⟨_,Rs.tmp rfl Rs.nil,_,Sub.none _,hb.imp ⟨fun ⟨i,hi,h,q⟩=>⟨_,List.getElem_mem h,q⟩,fun ⟨b,hb,q⟩=>?_⟩,rfl⟩
 obtain ⟨i,hi,rfl⟩:=List.getElem_of_mem hb
 exact ⟨i,hi,hi,q⟩
theorem asc_ext {l m:List Nat} (hl:l.Pairwise (· < ·)) (hm:m.Pairwise (· < ·)) (h:∀ x,x∈l↔x∈m):l=m:=by
 have e:l.map Int.ofNat=m.map Int.ofNat:=by
  refine Inc.ext ?_ ?_ fun x=>?_
  ·exact List.pairwise_map.2 (hl.imp fun h=>by simpa using h)
  ·exact List.pairwise_map.2 (hm.imp fun h=>by simpa using h)
  ·simp only [List.mem_map]
   exact ⟨fun ⟨y,hy,e⟩=>⟨y,(h y).1 hy,e⟩,fun ⟨y,hy,e⟩=>⟨y,(h y).2 hy,e⟩⟩
 have:=congrArg (List.map Int.toNat) e
 simpa [List.map_map,Function.comp_def] using this
theorem parts_asc (t:Tbl) (a:Nat):(t.parts a).Pairwise (· < ·):=by
 unfold Tbl.parts
 exact List.Pairwise.filter _ List.pairwise_lt_range
theorem indexNil {Z:Zone} {v fv:Value}:Cz M (.func (.func 191) #[] #[]) [v,fv] Z [ol 1 v 0 []] (fun v' Z' A'=>v'=.int .i64 (-1)∧Z=Z'∧A'=[ol 1 v 0 []]):=by
 refine Cz.fn (f:=Tryz.f191) Ev.cM rfl rfl rfl _ rfl ?_
 refine Wk.know Ev.rM (fun s h=>ol.form (v:=v) h) ?_
 rintro ⟨q,c,rfl⟩
 repeat first|refine go ?_|with_reducible intro _
 refine Wk.loop (fun mm L Z' A'=>mm=0∧Z=Z'∧A'=[ol 1 (.slice q 0 c) 0 []]∧Kp L [(7,.int .i64 0),(8,.int .i64 0)]) 0 ⟨rfl,rfl,rfl,Ev.kM⟩ ?_
 rintro mm L Z' A' - ⟨rfl,rfl,rfl,hk⟩
 refine Wk.kp hk ?_
 clear hk
 repeat first|refine go ?_|with_reducible intro _
 refine Wk.ret ⟨_,Rs.tmp rfl Rs.nil,_,Sub.refl _,rfl,rfl,rfl⟩
theorem deleteNil {Z:Zone} {v fv:Value}:Cz M (.func (.func 201) #[] #[]) [v,fv] Z [ol 1 v 0 []] (fun v' Z' A'=>Z=Z'∧A'=[ol 1 v' 0 []]):=by
 refine Cz.fn (f:=Tryz.f201) Ev.cM rfl rfl rfl _ rfl ?_
 repeat first|refine go ?_|with_reducible intro _
 refine Wk.call rfl rfl (.l .nil) indexNil rfl rfl rfl ?_
 rintro v' Z' A' hz ⟨rfl,rfl,rfl⟩
 repeat first|refine go ?_|with_reducible intro _
 refine Wk.ret ⟨_,Rs.tmp rfl Rs.nil,_,Sub.refl _,rfl,rfl⟩
theorem nats_nums (l:List Nat):nats l=nums (l.map Int.ofNat):=by simp [nats]
theorem cloneNats {Z:Zone} {v:Value} {l:List Nat} (sl:Sl Z 1 v l.length (nats l)) (hl:l.length≤1000000):Cz M (.func (.func 151) #[] #[]) [v] Z [] (fun v' Z' A'=>Z=Z'∧A'=[ol 1 v' l.length (nats l)]) :=
 cloneI2 sl Ev.wM (by rw [nats_nums];exact ok_nums _)
theorem greatest_ {Z:Zone} {bt:Nat} {t:Tbl} (h:TabR Z bt t) {vl:Value} {l:List Nat} (sl:Sl Z 1 vl l.length (nats l)) (hl:l.length≤1000000) (hin:∀ a∈l,a < t.elems.length) (r:List Nat) (hr:r.map Int.ofNat=flt (fun x=>∃ b∈l,x.toNat≠b∧t.Bl x.toNat b) (l.map Int.ofNat)) :
  Cz M (.func (.func 161) #[] #[]) [.pointer (some ⟨bt,0,none⟩),vl] Z [] (fun v' Z' A'=>A'=[ol 1 v' r.length (nats r)]):=by
 obtain ⟨qa,ca,rfl⟩:=sl.form
 refine Cz.fn (f:=Tryz.f161) Ev.cM rfl rfl rfl _ rfl ?_
 repeat first|refine go ?_|with_reducible intro _
 rename_i b2 b3
 apply Wk.freezer (b:=b2)
 case p=>repeat (first|exact Rem.head|apply Rem.tail)
 intro Z1 e1 h2
 apply Wk.freezer (b:=b3)
 case p=>repeat (first|exact Rem.head|apply Rem.tail)
 intro Z2 e2 h3
 replace h2:=e2 _ _ h2
 have e:=e1.trans e2
 repeat first|refine go ?_|with_reducible intro _
 refine Wk.call rfl rfl (Spl.none _) (cloneNats (sl.mono e) hl) rfl rfl rfl ?_
 rintro v8 Z3 A' hz ⟨rfl,rfl⟩
 by_cases h0:l=[]
 ·subst h0
  have:r=[]:=by simpa [flt] using hr
  subst this
  repeat first|refine go ?_|with_reducible intro _
  refine Wk.call rfl rfl (.l .nil) deleteNil rfl rfl rfl ?_
  rintro v' Z' A' hz ⟨rfl,rfl⟩
  repeat first|refine go ?_|with_reducible intro _
  refine Wk.ret ⟨_,Rs.tmp rfl Rs.nil,_,Sub.refl _,rfl⟩
 ·refine Wk.olOpenr Rem.head (List.length_pos_iff.2 h0) fun b6=>?_
  refine Wk.knowr Rem.head (fun s h=>olp.form h) ?_
  rintro ⟨cp,rfl,hcp⟩
  rw [nats_nums l]
  repeat first|refine go ?_|with_reducible intro _
  refine Wk.call rfl rfl (.l .nil) (deleteOwn (l:=l.map Int.ofNat) (fun x=>∃ b∈l,x.toNat≠b∧t.Bl x.toNat b) (by simp) hl hcp (fun x hx=>by
   obtain ⟨a,ha,rfl⟩:=List.mem_map.1 hx
   exact greatest1 (h.mono e) (sl.mono e) hl hin a (hin a ha) h3 h2)) rfl rfl rfl ?_
  rintro v' Z' A' hz ⟨rfl,rfl⟩
  rw [←hr]
  repeat first|refine go ?_|with_reducible intro _
  refine Wk.ret ⟨_,Rs.tmp rfl Rs.nil,_,Sub.refl _,?_⟩
  rw [List.length_map,←nats_nums]
  simp [outOf]
theorem parts1 {Z:Zone} {bt b6 b3:Nat} {t:Tbl} (h:TabR Z bt t) (hL:t.Lat) (a p:Nat) (ha:a < t.elems.length) (hp:p < t.elems.length) (h6:Z b6=some (.cells [.pointer (some ⟨bt,0,none⟩)] true 0)) (h3:Z b3=some (.cells [.int .i64 a] true 0)) :
  Cz M (.func (.func 163) #[] ⟨[.pointer (some ⟨b6,0,none⟩),.pointer (some ⟨b3,0,none⟩)]⟩) [.int .i64 p] Z [] (fun v' Z' A'=>Bis v' (t.Bl p a∧t.Prime p)∧Z=Z'∧A'=[]):=by
 refine Cz.fn (f:=Tryz.f163) Ev.cM rfl rfl rfl _ rfl ?_
 repeat first|refine go ?_|with_reducible intro _
 refine Wk.call rfl rfl (Spl.none _) (isBelow h p a hp ha) rfl rfl rfl ?_
 rintro v' Z' A' hz ⟨⟨r,rfl,hr⟩,rfl,rfl⟩
 repeat first|refine go ?_|with_reducible intro _
 refine Wk.caser 9 rfl (fun hc=>?_) (fun hc=>?_)
 ·repeat first|refine go ?_|with_reducible intro _
  refine Wk.call rfl rfl (Spl.none _) (isPrime_ h hL p) rfl rfl rfl ?_
  rintro v' Z' A' hz ⟨⟨r2,rfl,hr2⟩,rfl,rfl⟩
  repeat first|refine go ?_|with_reducible intro _
  refine Wk.ret ⟨_,Rs.tmp rfl Rs.nil,_,Sub.none _,Bis.of (by rw [hr2];simp [hr.1 hc]),rfl,rfl⟩
 ·have hnb:¬ t.Bl p a:=fun q=>by rw [hr.2 q] at hc;cases hc
  repeat first|refine go ?_|with_reducible intro _
  refine Wk.ret ⟨_,Rs.tmp rfl Rs.nil,_,Sub.none _,Bis.of (by simp [hnb]),rfl,rfl⟩
theorem parts_eq {t:Tbl} {a:Nat} {l:List Nat} (hl:Whe t.elems.length (fun p=>t.Bl p a∧t.Prime p) l):(t.parts a).map Int.ofNat=flt (fun x=>∃ b∈l,x.toNat≠b∧t.Bl x.toNat b) (l.map Int.ofNat):=by
 classical
 have e:t.parts a=l.filter fun x=>decide (¬ ∃ b∈l,x≠b∧t.Bl x b):=by
  refine asc_ext (parts_asc t a) (List.Pairwise.filter _ hl.asc) fun x=>?_
  rw [Tbl.mem_parts,List.mem_filter,hl.mem]
  simp only [decide_eq_true_eq,Tbl.Part]
  constructor
  ·rintro ⟨h1,h2,h3,h4⟩
   refine ⟨⟨h1,h2,h3⟩,?_⟩
   rintro ⟨b,hb,hne,hbl⟩
   obtain ⟨k1,k2,k3⟩:=(hl.mem b).1 hb
   exact hne (h4 b k1 k3 k2 hbl)
  ·rintro ⟨⟨h1,h2,h3⟩,h4⟩
   refine ⟨h1,h2,h3,fun q hq hqp hqa hxq=>Classical.byContradiction fun hne=>h4 ⟨q,(hl.mem q).2 ⟨hq,hqa,hqp⟩,hne,hxq⟩⟩
 rw [e,flt,List.filter_map]
 congr 1
 exact List.filter_congr fun x _=>decide_eq_decide.2 Iff.rfl
theorem oParts {Z:Zone} {nm:ByteArray} {ve va vw:Value} {t:Tbl} (h:TbR Z nm ve va vw t) (ht:t.Sm) (ok:t.Ok) (hL:t.Lat) (hok:okCells [.string nm,ve,va,vw]=true) (a:Nat) (ha:a < t.elems.length) :
  Cz M (.func (.func 114) #[] #[]) [.agg ⟨[.string nm,ve,va,vw]⟩,.int .i64 a] Z [] (fun v' Z' A'=>∃ vs,v'=.tuple ⟨[vs,.int .i64 0]⟩∧A'=[ol 1 vs (t.parts a).length (nats (t.parts a))]):=by
 have hn12:t.elems.length≤12:=ok.2.2.1
 refine Cz.fn (f:=Tryz.f114) Ev.cM rfl rfl rfl _ rfl ?_
 repeat first|refine go ?_|with_reducible intro _
 rename_i b2 b3
 refine Wk.bs (cs:=[.int .i64 a]) rfl rfl rfl rfl rfl rfl rfl fun b9=>?_
 first|refine Wk.freezer Rem.head fun Z1 e1 h9=>?_|refine Wk.freeze Rem.head fun Z1 e1 h9=>?_
 have sl:Sl Z1 1 (.slice (some ⟨b9,0,none⟩) 1 1) 1 (nats [a]):=.inr ⟨b9,0,1,_,_,_,rfl,Nat.le_refl _,h9,rfl,.inl rfl⟩
 repeat first|refine go ?_|with_reducible intro _
 refine Wk.call rfl rfl (Spl.none _) (lattice_ok (h.mono e1) ht ok hL (l:=[a]) sl (by simp) (by simp [ha])) rfl rfl rfl ?_
 rintro v' Z2 A' hz1 ⟨⟨bt,rfl,hT⟩,rfl⟩
 repeat first|refine go ?_|with_reducible intro _
 rename_i b6
 refine Wk.drawr (ms:=[0,0,0,6,15,31,63]) (l:=[0,1,2,3,4,5,6]) Ev.cM Ev.cM Ev.cM rfl ?_
 apply Wk.freezer (b:=b3)
 case p=>repeat (first|exact Rem.head|apply Rem.tail)
 intro Z3 e3 h3
 apply Wk.freezer (b:=b6)
 case p=>repeat (first|exact Rem.head|apply Rem.tail)
 intro Z4 e4 h6
 replace h3:=e4 _ _ h3
 have hT4:=hT.mono (e3.trans e4)
 repeat first|refine go ?_|with_reducible intro _
 refine Wk.callD rfl rfl (Spl.none _) (where_ (fun p=>t.Bl p a∧t.Prime p) hT4 (fun p hp=>parts1 hT4 hL a p ha hp h6 h3)) rfl rfl fun v21 Z9 A' hz9 hq=>?_
 obtain ⟨rfl,l,hl,rfl⟩:=hq
 refine ⟨?_,?_⟩
 ·exact Ev.pM2
 first|apply Wk.olFreezer (v:=v21)|apply Wk.olFreeze (v:=v21)
 case p=>repeat (first|exact Rem.head|apply Rem.tail)
 intro Z5 e5 s5
 have hin:∀ x∈l,x < t.elems.length:=fun x hx=>((hl.mem x).1 hx).1
 obtain ⟨q5,c5,rfl⟩:=s5.form
 repeat first|refine go ?_|with_reducible intro _
 refine Wk.call rfl rfl (Spl.none _) (greatest_ (hT4.mono e5) s5 (by have:=hl.len;omega) hin (t.parts a) (parts_eq hl)) Ev.cM rfl rfl ?_
 rintro v22 Z6 A' hz6 rfl
 repeat first|refine go ?_|with_reducible intro _
 refine Wk.ret ⟨_,Rs.tmp rfl (Rs.tmp rfl Rs.nil),_,.keep (Sub.none _),v22,rfl,rfl⟩
end Go.Proofs.J
namespace Go.Proofs.J
open Go.Ev Go
abbrev bls (l:List Bool):List Value:=l.map Value.bool
theorem bls_get {l:List Bool} {i off:Nat} (e:off=i) (h:i < l.length):getCells (bls l) off 1=some [.bool l[i]]:=by
 subst e
 unfold getCells
 rw [if_pos (by simp;omega),List.drop_eq_getElem_cons (by simpa using h)]
 simp
theorem bls_set {l:List Bool} {i off:Nat} {x:Bool} (e:off=i) (h:i < l.length):setCells (bls l) off [.bool x]=some (bls (l.set i x)):=by
 subst e
 unfold setCells
 rw [if_pos (by simp;omega)]
 congr 1
 simp only [bls]
 rw [List.map_set,List.set_eq_take_append_cons_drop,if_pos (by simpa using h)]
 rfl
theorem leastOf {t:Tbl} (hL:t.Lat) {a b:Nat} (ha:a < t.elems.length) (hb:b < t.elems.length) {l:List Nat} {r:Int} (hl:Whe t.elems.length (fun c=>t.Bl a c∧t.Bl b c) l)
  (hr:(∃ c:Nat,c∈l∧r=c∧∀ d∈l,t.Bl c d)∨(r=-1∧∀ c∈l,¬ ∀ d∈l,t.Bl c d)):r=(t.jn a b:Nat):=by
 have hj:=hL.jn ha hb
 have hcl:t.jn a b∈l:=(hl.mem _).2 ⟨hj.1,hj.2.1,hj.2.2.1⟩
 rcases hr with ⟨c,hc,rfl,hle⟩|⟨rfl,hno⟩
 ·have hcb:=(hl.mem c).1 hc
  have hJ:t.Jn a b c:=⟨hcb.1,hcb.2.1,hcb.2.2,fun d h1 h2 h3=>hle d ((hl.mem d).2 ⟨h1,h2,h3⟩)⟩
  rw [hJ.eq hL ha hb]
 ·exact absurd (fun d hd=>let ⟨q1,q2,q3⟩:=(hl.mem d).1 hd;hj.2.2.2 d q1 q2 q3) (hno _ hcl)
def PrUp (t:Tbl) (i a b:Nat) (P:List Bool):Prop:=P.length=t.elems.length∧∀ x (h:x < P.length),P[x]=true↔(1≤x∧x < i∧∀ a' b',b' < t.elems.length→(a' < a∨a'=a∧b' < b)→t.jn a' b'=x→a'=x∨b'=x)
theorem PrUp.row {t:Tbl} {i a:Nat} {P:List Bool} (h:PrUp t i a t.elems.length P):PrUp t i (a+1) 0 P:=by
 refine ⟨h.1,fun x hx=>(h.2 x hx).trans ⟨fun ⟨q1,q2,q3⟩=>⟨q1,q2,fun a' b' hb' hd=>q3 a' b' hb' Ev.wM⟩,fun ⟨q1,q2,q3⟩=>⟨q1,q2,fun a' b' hb' hd=>q3 a' b' hb' Ev.wM⟩⟩⟩
theorem PrUp.none {t:Tbl} {i a b:Nat} {P:List Bool} (h:PrUp t i a b P) (hj:t.jn a b=a∨t.jn a b=b):PrUp t i a (b+1) P:=by
 refine ⟨h.1,fun x hx=>(h.2 x hx).trans ⟨fun ⟨q1,q2,q3⟩=>⟨q1,q2,fun a' b' hb' hd he=>?_⟩,fun ⟨q1,q2,q3⟩=>⟨q1,q2,fun a' b' hb' hd=>q3 a' b' hb' Ev.wM⟩⟩⟩
 by_cases e:a'=a∧b'=b
 ·obtain ⟨rfl,rfl⟩:=e
  rw [he] at hj
  exact hj.imp Eq.symm Eq.symm
 ·exact q3 a' b' hb' Ev.wM he
theorem PrUp.off {t:Tbl} {i a b:Nat} {P:List Bool} (h:PrUp t i a b P) (hb:b < t.elems.length) (h1:t.jn a b≠a) (h2:t.jn a b≠b):PrUp t i a (b+1) (P.set (t.jn a b) false):=by
 refine ⟨by rw [List.length_set];exact h.1,fun x hx=>?_⟩
 rw [List.length_set] at hx
 rw [List.getElem_set]
 split
 ·rename_i e
  simp only [Bool.false_eq_true,false_iff]
  rintro ⟨q1,q2,q3⟩
  rcases q3 a b hb Ev.wM e with q|q
  ·exact h1 (e.trans q.symm)
  ·exact h2 (e.trans q.symm)
 ·rename_i e
  rw [h.2 x hx]
  refine ⟨fun ⟨q1,q2,q3⟩=>⟨q1,q2,fun a' b' hb' hd he=>?_⟩,fun ⟨q1,q2,q3⟩=>⟨q1,q2,fun a' b' hb' hd=>q3 a' b' hb' Ev.wM⟩⟩
  by_cases q:a'=a∧b'=b
  ·obtain ⟨rfl,rfl⟩:=q
   exact absurd he e
  ·exact q3 a' b' hb' Ev.wM he
theorem PrUp.up {t:Tbl} {i:Nat} {P:List Bool} (h:PrUp t i 0 0 P) (h1:1≤i):PrUp t (i+1) 0 0 (P.set i true):=by
 refine ⟨by rw [List.length_set];exact h.1,fun x hx=>?_⟩
 rw [List.length_set] at hx
 rw [List.getElem_set]
 split
 ·rename_i e
  subst e
  simp only [true_iff]
  exact ⟨h1,by omega,fun a' b' _ hd=>by omega⟩
 ·rename_i e
  rw [h.2 x hx]
  exact ⟨fun ⟨q1,q2,_⟩=>⟨q1,by omega,fun a' b' _ hd=>by omega⟩,fun ⟨q1,q2,_⟩=>⟨q1,by omega,fun a' b' _ hd=>by omega⟩⟩
theorem PrUp.init (t:Tbl):PrUp t 1 0 0 (List.replicate t.elems.length false):=by
 refine ⟨by simp,fun x hx=>?_⟩
 simp only [List.getElem_replicate,Bool.false_eq_true,false_iff]
 rintro ⟨q1,q2,_⟩
 omega
theorem PrUp.prime {t:Tbl} {P:List Bool} (h:PrUp t t.elems.length t.elems.length 0 P) {x:Nat} (hx:x < P.length):P[x]=true↔t.Prime x:=by
 rw [h.2 x hx,Tbl.Prime]
 have:=h.1
 exact ⟨fun ⟨q1,q2,q3⟩=>⟨by omega,fun a b ha hb=>q3 a b hb (.inl ha)⟩,fun ⟨q1,q3⟩=>⟨by omega,by omega,fun a b hb hd=>q3 a b Ev.wM hb⟩⟩
end Go.Proofs.J
namespace Go.Proofs.J
open Go.Ev Go
theorem rPrimes {Z:Zone} {nm:ByteArray} {ve va vw:Value} {t:Tbl} (h:TbR Z nm ve va vw t) (ht:t.Sm) (ok:t.Ok) (hL:t.Lat) (hok:okCells [.string nm,ve,va,vw]=true) :
  Cz M (.func (.func 166) #[] #[]) [.agg ⟨[.string nm,ve,va,vw]⟩] Z [] (fun v' Z' A'=>∃ l,Whe t.elems.length t.Prime l∧A'=[ol 1 v' l.length (nats l)]):=by
 have hn12:t.elems.length≤12:=ok.2.2.1
 have hn1:1≤t.elems.length:=ok.2.1
 refine Cz.fn (f:=Tryz.f166) Ev.cM rfl rfl rfl _ rfl ?_
 repeat first|refine go ?_|with_reducible intro _
 refine Wk.call rfl rfl (Spl.none _) (rRel h ht ok hok) rfl rfl rfl ?_
 rintro v4 Z1 A' hz ⟨hR,rfl⟩
 obtain ⟨us,hs,hr⟩:=id hR
 obtain ⟨q4,c4,rfl⟩:=hs.form
 repeat first|refine go ?_|with_reducible intro _
 rename_i b1
 refine Wk.mks t.elems.length t.elems.length rfl rfl rfl rfl rfl rfl rfl rfl (Nat.le_refl _) (by show 1*t.elems.length≤_;omega) Ev.wM fun b5=>?_
 refine Wk.alterr Rem.head (fun s h=>olp_bool h) ?_
 refine Wk.dropr (B:=[_]) (.keep (Sub.none _)) ?_
 repeat first|refine go ?_|with_reducible intro _
 refine Wk.loop (fun mm L Z' A'=>∃ (i:Nat) (P:List Bool),1≤i∧i≤t.elems.length∧mm=t.elems.length - i∧Z1=Z'∧A'=[olp b5 1 (.slice (some ⟨b5,0,none⟩) t.elems.length t.elems.length) t.elems.length (bls P)]∧PrUp t i 0 0 P∧Kp L [(3,.slice none 0 0),(4,.slice q4 t.elems.length c4),(5,.slice (some ⟨b5,0,none⟩) t.elems.length t.elems.length),(6,.int .i64 i)]) (t.elems.length - 1) ⟨1,_,by omega,by omega,rfl,rfl,rfl,PrUp.init t,Ev.kM⟩ ?_
 rintro mm L Z' A' - ⟨i,P,hi1,hi,rfl,rfl,rfl,hP,hk⟩
 refine Wk.kp hk ?_
 clear hk
 have hPl:=hP.1
 repeat first|refine go ?_|with_reducible intro _
 refine Wk.cond rfl (fun hc=>?_) (fun hc=>?_)
 ·have hlt:i < t.elems.length:=by simp at hc;omega
  clear hc
  repeat first|refine go ?_|with_reducible intro _
  refine Wk.iaV i rfl rfl rfl rfl rfl rfl rfl hlt ?_
  refine Wk.storeOlp rfl rfl rfl rfl rfl Ev.rM (bls_set (i:=i) Ev.wM Ev.wM) Ev.cM rfl ?_
  repeat first|refine go ?_|with_reducible intro _
  refine Wk.inv ⟨_,by omega,i+1,_,by omega,by omega,rfl,rfl,rfl,hP.up hi1,Ev.kM⟩
 have hin:i=t.elems.length:=by simp at hc;omega
 subst hin
 clear hc
 repeat first|refine go ?_|with_reducible intro _
 refine Wk.loop (fun mm L Z' A'=>∃ (a:Nat) (P:List Bool),a≤t.elems.length∧mm=t.elems.length - a∧Ext Z1 Z'∧A'=[olp b5 1 (.slice (some ⟨b5,0,none⟩) t.elems.length t.elems.length) t.elems.length (bls P)]∧PrUp t t.elems.length a 0 P∧Kp L [(3,.slice none 0 0),(4,.slice q4 t.elems.length c4),(5,.slice (some ⟨b5,0,none⟩) t.elems.length t.elems.length),(7,.int .i64 a)]) t.elems.length ⟨0,_,by omega,rfl,Ext.refl _,rfl,hP,Ev.kM⟩ ?_
 clear hP hPl P
 rintro mm L Z2 A' - ⟨a,P,ha,rfl,hz2,rfl,hP,hk⟩
 refine Wk.kp hk ?_
 clear hk
 have hs':=hs.mono hz2
 repeat first|refine go ?_|with_reducible intro _
 refine Wk.cond rfl (fun hc=>?_) (fun hc=>?_)
 ·have hat:a < t.elems.length:=by simp at hc;omega
  clear hc
  repeat first|refine go ?_|with_reducible intro _
  refine Wk.loop (fun mm L Z' A'=>∃ (b:Nat) (P:List Bool),b≤t.elems.length∧mm=t.elems.length - b∧Ext Z2 Z'∧A'=[olp b5 1 (.slice (some ⟨b5,0,none⟩) t.elems.length t.elems.length) t.elems.length (bls P)]∧PrUp t t.elems.length a b P∧Kp L [(3,.slice none 0 0),(4,.slice q4 t.elems.length c4),(5,.slice (some ⟨b5,0,none⟩) t.elems.length t.elems.length),(7,.int .i64 a),(8,.int .i64 b)]) t.elems.length ⟨0,_,by omega,rfl,Ext.refl _,rfl,hP,Ev.kM⟩ ?_
  clear hP P
  rintro mm L Z3 A' - ⟨b,P,hb,rfl,hz3,rfl,hP,hk⟩
  refine Wk.kp hk ?_
  clear hk
  have hs3:=hs.mono (hz2.trans hz3)
  have hPl:=hP.1
  repeat first|refine go ?_|with_reducible intro _
  refine Wk.cond rfl (fun hc=>?_) (fun hc=>?_)
  ·have hbt:b < t.elems.length:=by simp at hc;omega
   clear hc
   repeat first|refine go ?_|with_reducible intro _
   refine Wk.call rfl rfl (Spl.none _) (rBounds (hR.mono (hz2.trans hz3)) ok a b hat hbt) rfl rfl rfl ?_
   rintro v41 Z4 A' hz4 ⟨rfl,l,hl,rfl⟩
   first|apply Wk.olFreezer (v:=v41)|apply Wk.olFreeze (v:=v41)
   case p=>repeat (first|exact Rem.head|apply Rem.tail)
   intro Z5 e5 s5
   obtain ⟨q41,c41,rfl⟩:=s5.form
   repeat first|refine go ?_|with_reducible intro _
   refine Wk.call rfl rfl (Spl.none _) (rLeast (hR.mono ((hz2.trans hz3).trans e5)) ok s5 (by have:=hl.len;omega) (fun x hx=>((hl.mem x).1 hx).1)) rfl rfl rfl ?_
   rintro v' Z6 A' hz6 ⟨⟨r,rfl,hrr⟩,rfl,rfl⟩
   have hrj:=leastOf hL hat hbt hl hrr
   subst hrj
   have hjn:t.jn a b < t.elems.length:=(hL.jn hat hbt).1
   repeat first|refine go ?_|with_reducible intro _
   refine Wk.caser 46 rfl (fun h1=>?_) (fun h1=>?_)
   ·have h1:t.jn a b≠a:=by simp at h1;omega
    repeat first|refine go ?_|with_reducible intro _
    refine Wk.cond rfl (fun h2=>?_) (fun h2=>?_)
    ·have h2:t.jn a b≠b:=by simp at h2;omega
     repeat first|refine go ?_|with_reducible intro _
     refine Wk.iaV (t.jn a b) rfl rfl rfl rfl rfl rfl rfl hjn ?_
     refine Wk.storeOlp rfl rfl rfl rfl rfl Ev.rM (bls_set (i:=t.jn a b) Ev.wM Ev.wM) Ev.cM rfl ?_
     repeat first|refine go ?_|with_reducible intro _
     refine Wk.inv ⟨_,by omega,b+1,_,by omega,rfl,hz3.trans e5,rfl,hP.off hbt h1 h2,Ev.kM⟩
    ·have h2:t.jn a b=b:=by simp at h2;omega
     repeat first|refine go ?_|with_reducible intro _
     refine Wk.inv ⟨_,by omega,b+1,P,by omega,rfl,hz3.trans e5,rfl,hP.none (.inr h2),Ev.kM⟩
   ·have h1:t.jn a b=a:=by simp at h1;omega
    repeat first|refine go ?_|with_reducible intro _
    refine Wk.inv ⟨_,by omega,b+1,P,by omega,rfl,hz3.trans e5,rfl,hP.none (.inl h1),Ev.kM⟩
  ·have hbn:b=t.elems.length:=by simp at hc;omega
   subst hbn
   repeat first|refine go ?_|with_reducible intro _
   refine Wk.inv ⟨_,by omega,a+1,P,by omega,rfl,hz2.trans hz3,rfl,hP.row,Ev.kM⟩
 have han:a=t.elems.length:=by simp at hc;omega
 subst han
 clear hc
 have hPl:=hP.1
 repeat first|refine go ?_|with_reducible intro _
 refine Wk.olNil 1 ?_
 refine Wk.loop (fun mm L Z' A'=>∃ (j:Nat) (l:List Nat) (v7:Value),j≤t.elems.length∧mm=t.elems.length - j∧Z2=Z'∧Whe j t.Prime l∧Sub A' [ol 1 v7 l.length (nats l),olp b5 1 (.slice (some ⟨b5,0,none⟩) t.elems.length t.elems.length) t.elems.length (bls P)]∧Kp L [(3,v7),(4,.slice q4 t.elems.length c4),(5,.slice (some ⟨b5,0,none⟩) t.elems.length t.elems.length),(10,.int .i64 j)]) t.elems.length ⟨0,[],_,Nat.zero_le _,rfl,rfl,Whe.nil,Sub.refl _,Ev.kM⟩ ?_
 rintro mm L Z' A' - ⟨j,l,v7,hj,rfl,rfl,hw,hsub,hk⟩
 refine Wk.drop hsub ?_
 refine Wk.kp hk ?_
 clear hk hsub
 have hl:=hw.len
 repeat first|refine go ?_|with_reducible intro _
 refine Wk.cond rfl (fun hc=>?_) (fun hc=>?_)
 ·have hlt:j < t.elems.length:=by simp at hc;omega
  clear hc
  repeat first|refine go ?_|with_reducible intro _
  refine Wk.iaV j rfl rfl rfl rfl rfl rfl rfl hlt ?_
  refine Wk.loadOlp (cs:=[_]) rfl rfl Ev.rM (bls_get (i:=j) Ev.wM Ev.wM) rfl rfl rfl ?_
  repeat first|refine go ?_|with_reducible intro _
  refine Wk.cond rfl (fun hc=>?_) (fun hc=>?_)
  ·have hp:=(hP.prime Ev.wM).1 hc
   refine Wk.know Ev.rM (fun s h=>ol.form (v:=v7) h) ?_
   rintro ⟨q7,c7,rfl⟩
   repeat first|refine go ?_|with_reducible intro _
   refine Wk.bs rfl rfl rfl rfl rfl rfl rfl fun b33=>?_
   refine Wk.append rfl rfl rfl rfl rfl rfl rfl rfl Ev.rM (Src.lit Ev.hM rfl) rfl rfl rfl Ev.wM Ev.wM rfl rfl rfl fun v34=>?_
   refine Wk.dropr (.keep (.drop (Sub.refl _))) ?_
   repeat first|refine go ?_|with_reducible intro _
   exact Wk.inv ⟨_,by omega,j+1,l++[j],v34,hlt,rfl,rfl,hw.snoc hp,by rw [nats_snoc,List.length_append];exact Sub.refl _,Ev.kM⟩
  ·have hnp:¬ t.Prime j:=fun q=>by rw [(hP.prime Ev.wM).2 q] at hc;cases hc
   repeat first|refine go ?_|with_reducible intro _
   exact Wk.inv ⟨_,by omega,j+1,l,v7,hlt,rfl,rfl,hw.skip hnp,Sub.refl _,Ev.kM⟩
 ·have hjn:j=t.elems.length:=by simp at hc;omega
  subst hjn
  repeat first|refine go ?_|with_reducible intro _
  exact Wk.ret ⟨_,Rs.tmp rfl Rs.nil,_,.keep (Sub.none _),l,hw,rfl⟩
end Go.Proofs.J
namespace Go.Proofs.J
open Go.Ev Go
theorem mem_snoc_parts {t:Tbl} {a:Nat} {l:List Nat} (hl:Whe t.elems.length t.Prime l) {i:Nat} (hi:i < l.length):t.Part a l[i]↔(t.Bl l[i] a∧∀ k (h:k < l.length),k=i∨¬ t.Bl l[k] a∨¬ t.Bl l[i] l[k]):=by
 have hp:=(hl.mem l[i]).1 (List.getElem_mem hi)
 unfold Tbl.Part
 constructor
 ·rintro ⟨h1,h2,h3⟩
  refine ⟨h1,fun k hk=>?_⟩
  by_cases e:k=i
  ·exact .inl e
  ·refine .inr ?_
   by_cases q:t.Bl l[k] a
   ·refine .inr fun r=>?_
    have hk2:=(hl.mem l[k]).1 (List.getElem_mem hk)
    have he:=h3 l[k] hk2.1 hk2.2 q r
    have:=List.pairwise_iff_getElem.1 hl.asc
    rcases Nat.lt_or_gt_of_ne e with x|x
    ·have:=this k i hk hi x;omega
    ·have:=this i k hi hk x;omega
   ·exact .inl q
 ·rintro ⟨h1,h2⟩
  refine ⟨h1,hp.2,fun q hq hqp hqa hbl=>?_⟩
  obtain ⟨k,hk,rfl⟩:=List.getElem_of_mem ((hl.mem q).2 ⟨hq,hqp⟩)
  rcases h2 k hk with e|e|e
  ·subst e;rfl
  ·exact absurd hqa e
  ·exact absurd hbl e
theorem rParts {Z:Zone} {nm:ByteArray} {ve va vw:Value} {t:Tbl} (h:TbR Z nm ve va vw t) (ht:t.Sm) (ok:t.Ok) (hL:t.Lat) (hok:okCells [.string nm,ve,va,vw]=true) (hE:∃ q1 c1 q2 c2 q3 c3 n1 n2 n3,ve=.slice q1 n1 c1∧va=.slice q2 n2 c2∧vw=.slice q3 n3 c3) (a:Nat) (ha:a < t.elems.length) :
  Cz M (.func (.func 116) #[] #[]) [.agg ⟨[.string nm,ve,va,vw]⟩,.int .i64 a] Z [] (fun v' Z' A'=>A'=[ol 1 v' (t.parts a).length (nats (t.parts a))]):=by
 have hn12:t.elems.length≤12:=ok.2.2.1
 obtain ⟨e1q,e1c,e2q,e2c,e3q,e3c,en1,en2,en3,rfl,rfl,rfl⟩:=hE
 refine Cz.fn (f:=Tryz.f116) Ev.cM rfl rfl rfl _ rfl ?_
 repeat first|refine go ?_|with_reducible intro _
 refine Wk.drawr (ms:=[0,1,0,7,15,31]) (l:=[0,2,1,3,4,5]) Ev.cM Ev.cM Ev.cM rfl ?_
 repeat first|refine go ?_|with_reducible intro _
 refine Wk.callD rfl rfl (Spl.none _) (rPrimes h ht ok hL hok) rfl rfl fun v12 Z1 A' hz1 hq=>?_
 obtain ⟨l,hl,rfl⟩:=hq
 refine ⟨?_,?_⟩
 ·exact Ev.pM2
 first|apply Wk.olFreezer (v:=v12)|apply Wk.olFreeze (v:=v12)
 case p=>repeat (first|exact Rem.head|apply Rem.tail)
 intro Z2 e2 s2
 obtain ⟨q2,c2,rfl⟩:=s2.form
 have e12:=hz1.trans e2
 repeat first|refine go ?_|with_reducible intro _
 refine Wk.callD rfl rfl (Spl.none _) (rRel (h.mono e12) ht ok hok) rfl rfl fun v14 Z3 A' hz3 hq=>?_
 obtain ⟨hR,rfl⟩:=hq
 refine ⟨?_,?_⟩
 ·exact Ev.pM2
 obtain ⟨us,hs,hr⟩:=id hR
 obtain ⟨q4,c4,rfl⟩:=hs.form
 have s3:=s2.mono hz3
 have hll:=hl.len
 have hin:∀ x∈l,x < t.elems.length:=fun x hx=>((hl.mem x).1 hx).1
 repeat first|refine go ?_|with_reducible intro _
 refine Wk.olNil 1 ?_
 refine Wk.loop (fun mm L Z' A'=>∃ (i:Nat) (o:List Nat) (v5:Value),i≤l.length∧mm=l.length - i∧Z3=Z'∧o.length≤i∧(∀ x,x∈o↔∃ k,k < i∧∃ h:k < l.length,l[k]=x∧t.Part a x)∧o.Pairwise (· < ·)∧Sub A' [ol 1 v5 o.length (nats o)]∧Kp L [(1,.int .i64 a),(5,v5),(6,.slice q2 l.length c2),(7,.slice q4 t.elems.length c4),(8,.int .i64 i)]) l.length ⟨0,[],_,Nat.zero_le _,rfl,rfl,Nat.le_refl _,by simp,.nil,.keep (Sub.none _),Ev.kM⟩ ?_
 rintro mm L Z' A' - ⟨i,o,v5,hi,rfl,rfl,hol,hmem,hasc,hsub,hk⟩
 refine Wk.drop hsub ?_
 refine Wk.kp hk ?_
 clear hk hsub
 repeat first|refine go ?_|with_reducible intro _
 refine Wk.cond rfl (fun hc=>?_) (fun hc=>?_)
 ·have hlt:i < l.length:=by simp at hc;omega
  clear hc
  have hri:l[i] < t.elems.length:=hin _ (List.getElem_mem hlt)
  have hgi:getCells (nats l) (i*1) 1=some [.int .i64 (l[i]:Nat)]:=getCells_one (by rw [Nat.mul_one];exact nats_get hlt)
  obtain ⟨u,lb,gu,su,nu,ru⟩:=RelR.row hr l[i] hri
  have hal:a < lb.length:=by omega
  repeat first|refine go ?_|with_reducible intro _
  refine Wk.loop (fun mm L Z' A'=>∃ (k:Nat) (f:Bool),k≤l.length∧mm=l.length - k∧Z3=Z'∧Sub A' [ol 1 v5 o.length (nats o)]∧(f=true↔(t.Bl l[i] a∧∀ x (hx:x < l.length),x < k→x=i∨¬ t.Bl l[x] a∨¬ t.Bl l[i] l[x]))∧Kp L [(1,.int .i64 a),(5,v5),(6,.slice q2 l.length c2),(7,.slice q4 t.elems.length c4),(8,.int .i64 i),(9,.bool f),(10,.int .i64 k)]) l.length ⟨0,lb[a],Nat.zero_le _,rfl,rfl,Sub.refl _,by rw [ru a hal];simp,Ev.kM⟩ ?_
  rintro mm L Z' A' - ⟨k,f,hk1,rfl,rfl,hsub,hf,hk⟩
  refine Wk.drop hsub ?_
  refine Wk.kp hk ?_
  clear hk hsub
  repeat first|refine go ?_|with_reducible intro _
  refine Wk.cond rfl (fun hc=>?_) (fun hc=>?_)
  ·have hkt:k < l.length:=by simp at hc;omega
   clear hc
   have hrk:l[k] < t.elems.length:=hin _ (List.getElem_mem hkt)
   have hgk:getCells (nats l) (k*1) 1=some [.int .i64 (l[k]:Nat)]:=getCells_one (by rw [Nat.mul_one];exact nats_get hkt)
   obtain ⟨uk,lbk,guk,suk,nuk,ruk⟩:=RelR.row hr l[k] hrk
   have hakl:a < lbk.length:=by omega
   have hkl:l[k] < lb.length:=by omega
   repeat first|refine go ?_|with_reducible intro _
   refine Wk.drawr (ms:=[0,1,3,3,15,31,63,63,63,447,959,2047,4095,63,16383,32767,65535,131071,262143,524287,524287,524287,3670015,7864319,16777215,33554431,524287,524287,201850879,470286335,1073741823,2147483647,4294967295,8589934591,17179869183,34359738367]) (l:=[0,1,2,3,4,5,6,7,8,9,10,11,12,13,14,15,16,17,18,19,20,21,22,23,24,25,26,27,28,29,30,31,32,33,34,35]) Ev.cM Ev.cM Ev.cM rfl ?_
   repeat first|refine go ?_|with_reducible intro _
   refine Wk.caser 38 rfl (fun h1=>?_) (fun h1=>?_)
   ·subst h1
    obtain ⟨hb0,hall⟩:=hf.1 rfl
    repeat first|refine go ?_|with_reducible intro _
    refine Wk.caser 42 rfl (fun h2=>?_) (fun h2=>?_)
    ·have h2:k=i:=by simp at h2;omega
     repeat first|refine go ?_|with_reducible intro _
     refine Wk.inv ⟨_,by omega,k+1,true,hkt,rfl,rfl,Sub.refl _,?_,Ev.kM⟩
     simp only [true_iff]
     refine ⟨hb0,fun x hx hxk=>?_⟩
     by_cases e:x=k
     ·exact .inl (e.trans h2)
     ·exact hall x hx Ev.wM
    ·have h2:k≠i:=by simp at h2;omega
     repeat first|refine go ?_|with_reducible intro _
     refine Wk.caser 55 rfl (fun h3=>?_) (fun h3=>?_)
     ·have h3:¬ t.Bl l[k] a:=fun q=>by rw [(ruk a hakl).2 q] at h3;cases h3
      repeat first|refine go ?_|with_reducible intro _
      refine Wk.inv ⟨_,by omega,k+1,true,hkt,rfl,rfl,Sub.refl _,?_,Ev.kM⟩
      simp only [true_iff]
      refine ⟨hb0,fun x hx hxk=>?_⟩
      by_cases e:x=k
      ·subst e;exact .inr (.inl h3)
      ·exact hall x hx Ev.wM
     ·have h3:t.Bl l[k] a:=(ruk a hakl).1 (by simpa using h3)
      repeat first|refine go ?_|with_reducible intro _
      refine Wk.inv ⟨_,by omega,k+1,!lb[l[k]],hkt,rfl,rfl,Sub.refl _,?_,Ev.kM⟩
      have hlb:=ru l[k] hkl
      constructor
      ·intro q
       have hnb:¬ t.Bl l[i] l[k]:=fun w=>by rw [hlb.2 w] at q;cases q
       refine ⟨hb0,fun x hx hxk=>?_⟩
       by_cases e:x=k
       ·subst e;exact .inr (.inr hnb)
       ·exact hall x hx Ev.wM
      ·rintro ⟨_,w⟩
       rcases w k hkt Ev.wM with e|e|e
       ·exact absurd e h2
       ·exact absurd h3 e
       ·cases hq:lb[l[k]]
        ·rfl
        ·exact absurd (hlb.1 hq) e
   ·subst h1
    repeat first|refine go ?_|with_reducible intro _
    refine Wk.inv ⟨_,by omega,k+1,false,hkt,rfl,rfl,Sub.refl _,?_,Ev.kM⟩
    simp only [Bool.false_eq_true,false_iff]
    rintro ⟨w1,w2⟩
    have:=hf.2 ⟨w1,fun x hx hxk=>w2 x hx Ev.wM⟩
    cases this
  ·have hkn:k=l.length:=by simp at hc;omega
   subst hkn
   clear hc
   have hpart:f=true↔t.Part a l[i]:=by
    rw [hf,mem_snoc_parts hl hlt]
    exact ⟨fun ⟨w1,w2⟩=>⟨w1,fun x hx=>w2 x hx hx⟩,fun ⟨w1,w2⟩=>⟨w1,fun x hx _=>w2 x hx⟩⟩
   have hlast:∀ x∈o,x < l[i]:=fun x hx=>by
    obtain ⟨k,hk,hk2,rfl,_⟩:=(hmem x).1 hx
    exact List.pairwise_iff_getElem.1 hl.asc k i hk2 hlt hk
   repeat first|refine go ?_|with_reducible intro _
   refine Wk.cond rfl (fun hc=>?_) (fun hc=>?_)
   ·have hp:=hpart.1 hc
    refine Wk.know Ev.rM (fun s h=>ol.form (v:=v5) h) ?_
    rintro ⟨q7,c7,rfl⟩
    repeat first|refine go ?_|with_reducible intro _
    refine Wk.bs rfl rfl rfl rfl rfl rfl rfl fun b33=>?_
    refine Wk.append rfl rfl rfl rfl rfl rfl rfl rfl Ev.rM (Src.lit Ev.hM rfl) rfl rfl rfl Ev.wM Ev.wM rfl rfl rfl fun v34=>?_
    refine Wk.dropr (.keep (.drop (Sub.refl _))) ?_
    repeat first|refine go ?_|with_reducible intro _
    refine Wk.inv ⟨_,by omega,i+1,o++[l[i]],v34,hlt,rfl,rfl,by simp;omega,fun x=>?_,?_,by rw [nats_snoc,List.length_append];exact Sub.refl _,Ev.kM⟩
    ·rw [List.mem_append,hmem,List.mem_singleton]
     constructor
     ·rintro (⟨k,hk,hk2,e,q⟩|rfl)
      ·exact ⟨k,by omega,hk2,e,q⟩
      ·exact ⟨i,by omega,hlt,rfl,hp⟩
     ·rintro ⟨k,hk,hk2,e,q⟩
      by_cases ek:k=i
      ·subst ek;exact .inr e.symm
      ·exact .inl ⟨k,by omega,hk2,e,q⟩
    ·rw [List.pairwise_append]
     refine ⟨hasc,by simp,fun x hx y hy=>?_⟩
     rw [List.mem_singleton] at hy
     subst hy
     exact hlast x hx
   ·have hnp:¬ t.Part a l[i]:=fun q=>by rw [hpart.2 q] at hc;cases hc
    repeat first|refine go ?_|with_reducible intro _
    refine Wk.inv ⟨_,by omega,i+1,o,v5,hlt,rfl,rfl,by omega,fun x=>?_,hasc,Sub.refl _,Ev.kM⟩
    rw [hmem]
    constructor
    ·rintro ⟨k,hk,hk2,e,q⟩
     exact ⟨k,by omega,hk2,e,q⟩
    ·rintro ⟨k,hk,hk2,e,q⟩
     by_cases ek:k=i
     ·subst ek;subst e;exact absurd q hnp
     ·exact ⟨k,by omega,hk2,e,q⟩
 ·have hin:i=l.length:=by simp at hc;omega
  subst hin
  clear hc
  have hfin:o=t.parts a:=by
   refine asc_ext hasc (parts_asc t a) fun x=>?_
   rw [hmem,Tbl.mem_parts]
   constructor
   ·rintro ⟨k,_,hk,rfl,hp⟩
    exact ⟨hin _ (List.getElem_mem hk),hp⟩
   ·rintro ⟨hx,hp⟩
    obtain ⟨k,hk,rfl⟩:=List.getElem_of_mem ((hl.mem x).2 ⟨hx,hp.2.1⟩)
    exact ⟨k,hk,hk,rfl,hp⟩
  subst hfin
  repeat first|refine go ?_|with_reducible intro _
  exact Wk.ret ⟨_,Rs.tmp rfl Rs.nil,_,Sub.refl _,rfl⟩
end Go.Proofs.J
namespace Go.Proofs.J
open Go.Ev Go
def YieldsE (Z:Zone) (fv:Value) (l:List El):Prop :=
 ∀ (yv:Value) (Z1:Zone) (A0:List SA) (J:List El→Zone→List SA→Prop),Ext Z Z1→cellsL yv=[yv]→(∀ done Z' Z'' A',Ext Z' Z''→J done Z' A'→J done Z'' A')→J [] Z1 A0 →
  (∀ done x rest Z' A' cs,l=done++x::rest→Ext Z1 Z'→J done Z' A'→ElR Z' x cs→Cz M yv [.agg ⟨cs⟩] Z' A' (fun v Z'' A''=>v=.bool true∧J (done++[x]) Z'' A'')) →
  Cz M fv [yv] Z1 A0 (fun v Z' A'=>J l Z' A')
theorem Rem_last {x:SA}:∀ {A:List SA},Rem (A++[x]) x A
 | []=>.head
 | y::A=>.tail Rem_last
section
variable {fn:FuncId} {rd:Option Nat} {n:Nat} {Q:PQ} {k:List KI} {L:Lo} {Z:Zone} {A:List SA}
theorem rangeY {f:Operand} {params:Array Tmp} {assign body:Code} {fv:Value} {l:List El} (J:List El→Zone→List SA→Prop) (hrd:∀ H φ,St H Z A φ→isLoop H rd=true) (hf:evL L f=some fv) (hY:YieldsE Z fv l) (hps:params.size=1) (hb:∀ t∈params.toList,t < n) (hm:∀ done Z' Z'' A',Ext Z' Z''→J done Z' A'→J done Z'' A') (h0:J [] Z A)
  (hstep:∀ done x rest Z1 A1 cs q,l=done++x::rest→Ext Z Z1→J done Z1 A1→ElR Z1 x cs →
   Wk M fn (some q) n (fun e L1 Z1' A1'=>e=.normal∧∃ B1,Rem A1' (lp q .ready none fn n L params assign body) B1 ∧
    Wk M fn (some q) n (fun e L2 Z2 A2=>e=.normal∧∃ B2,Rem A2 (lp q .busy none fn n L params assign body) B2∧J (done++[x]) Z2 B2) [.c body] L1 Z1' (lp q .busy none fn n L params assign body::B1))
    [.c assign] (fillP params.toList [.agg ⟨cs⟩] L) Z1 (lp q .ready none fn n L params assign body::A1))
  (hdone:∀ Z' A',Ext Z Z'→J l Z' A'→Wk M fn rd n Q k L Z' A'):Wk M fn rd n Q (.c (.rangeFunc f params assign body)::k) L Z A:=by
 refine Wk.range hrd hf fun q=>?_
 refine (hY _ Z _ (fun done Z' A'=>∃ A1,A'=lp q .ready none fn n L params assign body::A1∧J done Z' A1) (Ext.refl _) rfl (fun done Z' Z'' A' hz ⟨A1,e,h⟩=>⟨A1,e,hm done Z' Z'' A1 hz h⟩) ⟨_,rfl,h0⟩ ?_).mono ?_
 ·rintro done x rest Z' A' cs hl hz ⟨A1,rfl,hJ⟩ hR
  refine Cz.yield (pend:=none) Rem.head (by simp [hps]) hb ?_
  refine Wc.mono (hstep done x rest Z' A1 cs q hl hz hJ hR) ?_
  rintro e L1 Z1' A1' hz1 ⟨rfl,B1,hB1,hbody⟩
  refine ⟨rfl,none,B1,hB1,?_⟩
  refine Wc.mono hbody ?_
  rintro e L2 Z2 A2 hz2 ⟨rfl,B2,hB2,hJ2⟩
  exact ⟨.busy,none,B2,hB2,rfl,B2,rfl,hJ2⟩
 ·rintro v Z' A' hz ⟨A1,rfl,hJ⟩
  exact ⟨.ready,none,A1,Rem.head,by simp,hdone Z' A1 hz hJ⟩
end
def wrK (e:El) (j:Nat) (p:El):El:=if e.kind=7 then .mk 7 0 [] (if j=0 then [p,El.bot] else [El.bot,p]) else .mk 6 0 [e.keys.getD j 0] [p]
noncomputable def kidP (ts:List Tbl) (d:Nat) (s:Shp) (e:El) (j:Nat):List El:=(piecesE ts d (s.kid (j % s.kids.length)) (e.kd j)).map (wrK e j)
theorem flatMap_range {α:Type} (F:Nat→List α) {n j:Nat} (h:j < n):∃ after,(List.range n).flatMap F=(List.range j).flatMap F++(F j++after):=by
 refine ⟨((List.range n).drop (j+1)).flatMap F,?_⟩
 have e:List.range n=List.range (j+1)++(List.range n).drop (j+1):=by
  have:=List.take_append_drop (j+1) (List.range n)
  rw [List.take_range,Nat.min_eq_left Ev.wM] at this
  exact this.symm
 conv=>lhs;rw [e]
 rw [List.flatMap_append,List.range_succ,List.flatMap_append]
 simp
theorem flatMap_congr_mem {α β:Type} {l:List α} {f g:α→List β} (h:∀ a∈l,f a=g a):l.flatMap f=l.flatMap g:=by
 induction l with
 | nil=>rfl
 | cons x l ih=>rw [List.flatMap_cons,List.flatMap_cons,h x (by simp),ih fun a ha=>h a (by simp [ha])]
theorem pieces_kids {ts:List Tbl} {d:Nat} {s:Shp} {e:El} (so:s.Ok) (w:IsW ts (d+1) s e) (hk:e.kind≠1∧e.kind≠2∧e.kind≠3∧e.kind≠4∧e.kind≠5) :
  piecesE ts (d+1) s e=(List.range e.kids.length).flatMap (kidP ts d s e):=by
 by_cases nb:e=El.bot
 ·subst nb;rw [pieces_0];rfl
 rcases w.kinds nb with k|k|k|k|k|k|k
 ·rw [w.inv1 nb k] at hk;exact absurd rfl hk.1
 ·obtain ⟨m,hm,rfl⟩:=w.inv2 nb k;exact absurd rfl hk.2.1
 ·rcases w.inv4 nb k with ⟨m,hm,rfl⟩|rfl
  ·exact absurd rfl hk.2.1
  ·exact absurd rfl hk.2.2.1
 ·obtain ⟨t,m,ht,h1,h2,rfl⟩:=w.inv5 nb k;exact absurd rfl hk.2.2.2.1
 ·obtain ⟨ks,hk2,rfl⟩:=w.inv3 nb k;exact absurd rfl hk.2.2.2.2
 ·obtain ⟨k0,ks,l,e0,hks,hl,hx,rfl⟩:=w.inv6 nb k
  have hkl:s.kids.length=1:=by
   have:=so.kids_.1
   rw [k] at this
   simpa [kidsOf] using this.symm
  rw [pieces_6]
  have hkeys:ks=(List.range l.length).map fun j=>ks.getD j 0:=by
   apply List.ext_getElem
   ·simp [hl]
   ·intro i h1 h2;simp [h1]
  show (ks.flatMap _)=(List.range l.length).flatMap _
  have e2:∀ (G:Int→List El),ks.flatMap G=(List.range l.length).flatMap fun j=>G (ks.getD j 0):=by
   intro G
   conv=>lhs;rw [hkeys]
   rw [List.flatMap_map]
  rw [e2]
  refine flatMap_congr_mem fun j hj=>?_
  have hj:j < l.length:=List.mem_range.1 hj
  have hjk:j < ks.length:=by omega
  have hat:atK ks l (ks.getD j 0)=l[j]:=atK_at hks.inc.nodup (by simp [hjk]) hj
  rw [kidP,hkl,Nat.mod_one,hat]
  have:(El.mk 6 0 ks l).kd j=l[j]:=by simp [El.kd,El.kids,hj]
  rw [this]
  rfl
 ·obtain ⟨k0,k1,x,y,e0,e1,hx,hy,hn,rfl⟩:=w.inv7 nb k
  have hkl:s.kids.length=2:=by
   have:=so.kids_.1
   rw [k] at this
   simpa [kidsOf] using this.symm
  rw [pieces_7]
  show _=(List.range 2).flatMap _
  rw [show List.range 2=[0,1] from rfl]
  simp only [List.flatMap_cons,List.flatMap_nil,List.append_nil,kidP,hkl]
  rfl
end Go.Proofs.J
