/- HK -/
import Derived.Test.YtlmmgebealakkaaGreatDoorHA
import Derived.Test.YtlmmgebealakkaaGreatDoorPL
import Derived.Test.YtlmmgebealakkaaGreatDoorEA
import Derived.Test.YtlmmgebealakkaaGreatDoorEvF
set_option linter.unusedVariables false
set_option maxHeartbeats 4000000
set_option maxRecDepth 100000
set_option linter.unusedSimpArgs false
namespace Go.Proofs.J
open Go.Ev Go
theorem nanI {Z:Zone} {x:Int}:Cz M (.func (.func 150) #[] #[]) [.int .i64 x] Z [] (fun v' Z' A'=>v'=.bool false∧Z=Z'∧A'=[]):=by
 refine Cz.fn (f:=Tryz.f150) Ev.cM rfl rfl rfl _ rfl ?_
 repeat first|refine go ?_|with_reducible intro _
 refine Wk.ret ⟨_,Rs.tmp rfl Rs.nil,_,Sub.none _,by simp [outOf],rfl,rfl⟩
theorem cmpInt {Z:Zone} {x y:Int}:Cz M (.func (.func 100) #[] #[]) [.int .i64 x,.int .i64 y] Z [] (fun v' Z' A'=>v'=.int .i64 (cmpI x y)∧Z=Z'∧A'=[]):=by
 refine Cz.fn (f:=Tryz.f100) Ev.cM rfl rfl rfl _ rfl ?_
 repeat first|refine go ?_|with_reducible intro _
 refine Wk.call rfl rfl (Spl.none _) (nanI) rfl rfl rfl ?_
 rintro v' Z' A' hz ⟨rfl,rfl,rfl⟩
 repeat first|refine go ?_|with_reducible intro _
 refine Wk.call rfl rfl (Spl.none _) (nanI) rfl rfl rfl ?_
 rintro v' Z' A' hz ⟨rfl,rfl,rfl⟩
 repeat first|refine go ?_|with_reducible intro _
 refine Wk.cond rfl (fun hc=>?_) (fun hc=>?_)
 ·have h:x < y:=by simpa using hc
  repeat first|refine go ?_|with_reducible intro _
  refine Wk.ret ⟨_,Rs.tmp rfl Rs.nil,_,Sub.none _,by simp [outOf,cmpI,h],rfl,rfl⟩
 ·have h:¬ x < y:=by simpa using hc
  repeat first|refine go ?_|with_reducible intro _
  refine Wk.cond rfl (fun hc=>?_) (fun hc=>?_)
  ·have h2:y < x:=by simpa using hc
   repeat first|refine go ?_|with_reducible intro _
   refine Wk.ret ⟨_,Rs.tmp rfl Rs.nil,_,Sub.none _,by simp [outOf,cmpI,h,h2],rfl,rfl⟩
  ·have h2:¬ y < x:=by simpa using hc
   repeat first|refine go ?_|with_reducible intro _
   refine Wk.ret ⟨_,Rs.tmp rfl Rs.nil,_,Sub.none _,by simp [outOf,cmpI,h,h2],rfl,rfl⟩
theorem nanU {Z:Zone} {x:Int}:Cz M (.func (.func 149) #[] #[]) [.int .u8 x] Z [] (fun v' Z' A'=>v'=.bool false∧Z=Z'∧A'=[]):=by
 refine Cz.fn (f:=Tryz.f149) Ev.cM rfl rfl rfl _ rfl ?_
 repeat first|refine go ?_|with_reducible intro _
 refine Wk.ret ⟨_,Rs.tmp rfl Rs.nil,_,Sub.none _,by simp [outOf],rfl,rfl⟩
theorem cmpU8 {Z:Zone} {x y:Int}:Cz M (.func (.func 99) #[] #[]) [.int .u8 x,.int .u8 y] Z [] (fun v' Z' A'=>v'=.int .i64 (cmpI x y)∧Z=Z'∧A'=[]):=by
 refine Cz.fn (f:=Tryz.f99) Ev.cM rfl rfl rfl _ rfl ?_
 repeat first|refine go ?_|with_reducible intro _
 refine Wk.call rfl rfl (Spl.none _) (nanU) rfl rfl rfl ?_
 rintro v' Z' A' hz ⟨rfl,rfl,rfl⟩
 repeat first|refine go ?_|with_reducible intro _
 refine Wk.call rfl rfl (Spl.none _) (nanU) rfl rfl rfl ?_
 rintro v' Z' A' hz ⟨rfl,rfl,rfl⟩
 repeat first|refine go ?_|with_reducible intro _
 refine Wk.cond rfl (fun hc=>?_) (fun hc=>?_)
 ·have h:x < y:=by simpa using hc
  repeat first|refine go ?_|with_reducible intro _
  refine Wk.ret ⟨_,Rs.tmp rfl Rs.nil,_,Sub.none _,by simp [outOf,cmpI,h],rfl,rfl⟩
 ·have h:¬ x < y:=by simpa using hc
  repeat first|refine go ?_|with_reducible intro _
  refine Wk.cond rfl (fun hc=>?_) (fun hc=>?_)
  ·have h2:y < x:=by simpa using hc
   repeat first|refine go ?_|with_reducible intro _
   refine Wk.ret ⟨_,Rs.tmp rfl Rs.nil,_,Sub.none _,by simp [outOf,cmpI,h,h2],rfl,rfl⟩
  ·have h2:¬ y < x:=by simpa using hc
   repeat first|refine go ?_|with_reducible intro _
   refine Wk.ret ⟨_,Rs.tmp rfl Rs.nil,_,Sub.none _,by simp [outOf,cmpI,h,h2],rfl,rfl⟩
def orL:List Int→Int
 | []=>0
 | a::l=>orI a (orL l)
theorem orL_4 (a b c d:Int):orL [a,b,c,d]=orI a (orI b (orI c d)):=by
 simp only [orL]
 congr 3
 unfold orI;split
 ·rfl
 ·rename_i h;simp at h;exact h.symm
theorem orL_drop {l:List Int} {j:Nat} (h:j < l.length) (e:l[j]=0):orL (l.drop j)=orL (l.drop (j+1)):=by
 rw [List.drop_eq_getElem_cons h,orL,e];simp [orI]
theorem cmpOr {Z:Zone} {v:Value} {l:List Int} (s:Sl Z 1 v l.length (nums l)) (hn:l.length≤1000000) :
  Cz M (.func (.func 98) #[] #[]) [v] Z [] (fun v' Z' A'=>v'=.int .i64 (orL l)∧Z=Z'∧A'=[]):=by
 obtain ⟨q,c,rfl⟩:=s.form
 refine Cz.fn (f:=Tryz.f98) Ev.cM rfl rfl rfl _ rfl ?_
 repeat first|refine go ?_|with_reducible intro _
 refine Wk.loop (fun mm L Z' A'=>∃ j:Nat,j≤l.length∧mm=l.length - j∧Z=Z'∧Sub A' []∧(orL l=orL (l.drop j))∧Kp L [(3,.int .i64 0),(6,.slice q l.length c),(7,.int .i64 l.length),(8,.int .i64 j)]) (l.length) ⟨0,Nat.zero_le _,rfl,rfl,Ev.sM,rfl,Ev.kM⟩ ?_
 rintro mm L Z' A' - ⟨j,hjj,rfl,rfl,hsub,invj,hk⟩
 refine Wk.drop hsub ?_
 refine Wk.kp hk ?_
 clear hk hsub
 repeat first|refine go ?_|with_reducible intro _
 refine Wk.cond rfl (fun hc=>?_) (fun hc=>?_)
 ·have hlt:j < l.length:=by simp at hc;omega
  clear hc
  repeat first|refine go ?_|with_reducible intro _
  refine Wk.cond rfl (fun hc=>?_) (fun hc=>?_)
  ·have h:¬ l[j]=0:=by simpa using hc
   repeat first|refine go ?_|with_reducible intro _
   refine Wk.ret ⟨_,Rs.tmp rfl Rs.nil,_,Sub.none _,by rw [invj,List.drop_eq_getElem_cons hlt,orL];simp [outOf,orI,h],rfl,rfl⟩
  ·have h:l[j]=0:=by simpa using hc
   clear hc
   repeat first|refine go ?_|with_reducible intro _
   refine Wk.inv ⟨_,by omega,j+1,by omega,rfl,rfl,Ev.sM,(invj.trans (orL_drop hlt h)),Ev.kM⟩
 ·have hjn:j=l.length:=by simp at hc;omega
  subst hjn
  repeat first|refine go ?_|with_reducible intro _
  refine Wk.ret ⟨_,Rs.tmp rfl Rs.nil,_,Sub.none _,by rw [invj];simp [outOf,orL],rfl,rfl⟩
theorem cmpL_drop {x y:List Int} {j:Nat} (hx:j < x.length) (hy:j < y.length):cmpL (x.drop j) (y.drop j)=orI (cmpI x[j] y[j]) (cmpL (x.drop (j+1)) (y.drop (j+1))):=by
 rw [List.drop_eq_getElem_cons hx,List.drop_eq_getElem_cons hy,cmpL]
theorem cmpInts {Z:Zone} {v w:Value} {x y:List Int} (s:Sl Z 1 v x.length (nums x)) (t:Sl Z 1 w y.length (nums y)) (hx:x.length≤17592186044416) (hy:y.length≤17592186044416) :
  Cz M (.func (.func 101) #[] #[]) [v,w] Z [] (fun v' Z' A'=>v'=.int .i64 (cmpL x y)∧Z=Z'∧A'=[]):=by
 obtain ⟨q,c,rfl⟩:=s.form
 obtain ⟨r,e,rfl⟩:=t.form
 refine Cz.fn (f:=Tryz.f101) Ev.cM rfl rfl rfl _ rfl ?_
 repeat first|refine go ?_|with_reducible intro _
 refine Wk.loop (fun mm L Z' A'=>∃ j:Nat,j≤x.length∧mm=x.length - j∧Z=Z'∧Sub A' []∧(j≤y.length∧cmpL x y=cmpL (x.drop j) (y.drop j))∧Kp L [(0,.slice q x.length c),(1,.slice r y.length e),(9,.slice q x.length c),(10,.int .i64 x.length),(11,.int .i64 j)]) (x.length) ⟨0,Nat.zero_le _,rfl,rfl,Ev.sM,⟨Nat.zero_le _,rfl⟩,Ev.kM⟩ ?_
 rintro mm L Z' A' - ⟨j,hjj,rfl,rfl,hsub,invj,hk⟩
 refine Wk.drop hsub ?_
 refine Wk.kp hk ?_
 clear hk hsub
 obtain ⟨hjy,hinv⟩:=invj
 repeat first|refine go ?_|with_reducible intro _
 refine Wk.cond rfl (fun hc=>?_) (fun hc=>?_)
 ·have hlt:j < x.length:=by simp at hc;omega
  clear hc
  repeat first|refine go ?_|with_reducible intro _
  refine Wk.cond rfl (fun hc=>?_) (fun hc=>?_)
  ·have h:j=y.length:=by simp at hc;omega
   subst h
   repeat first|refine go ?_|with_reducible intro _
   refine Wk.ret ⟨_,Rs.tmp rfl Rs.nil,_,Sub.none _,by rw [hinv,List.drop_eq_getElem_cons hlt,List.drop_length,cmpL];simp [outOf],rfl,rfl⟩
  ·have hlt2:j < y.length:=by simp at hc;omega
   clear hc
   repeat first|refine go ?_|with_reducible intro _
   refine Wk.call rfl rfl (Spl.none _) (cmpInt) rfl rfl rfl ?_
   rintro v' Z' A' hz ⟨rfl,rfl,rfl⟩
   repeat first|refine go ?_|with_reducible intro _
   refine Wk.cond rfl (fun hc=>?_) (fun hc=>?_)
   ·have h:¬ cmpI x[j] y[j]=0:=by simpa using hc
    repeat first|refine go ?_|with_reducible intro _
    refine Wk.ret ⟨_,Rs.tmp rfl Rs.nil,_,Sub.none _,by rw [hinv,cmpL_drop hlt hlt2];simp [outOf,orI,h],rfl,rfl⟩
   ·have h:cmpI x[j] y[j]=0:=by simpa using hc
    clear hc
    repeat first|refine go ?_|with_reducible intro _
    refine Wk.inv ⟨_,by omega,j+1,by omega,rfl,rfl,Ev.sM,(⟨hlt2,by rw [hinv,cmpL_drop hlt hlt2,h];simp [orI]⟩),Ev.kM⟩
 ·have hjn:j=x.length:=by simp at hc;omega
  subst hjn
  repeat first|refine go ?_|with_reducible intro _
  refine Wk.cond rfl (fun hc=>?_) (fun hc=>?_)
  ·have h:x.length < y.length:=by simpa using hc
   repeat first|refine go ?_|with_reducible intro _
   refine Wk.ret ⟨_,Rs.tmp rfl Rs.nil,_,Sub.none _,by rw [hinv,List.drop_length,List.drop_eq_getElem_cons h,cmpL];simp [outOf],rfl,rfl⟩
  ·have h:y.length=x.length:=by simp at hc;omega
   repeat first|refine go ?_|with_reducible intro _
   refine Wk.ret ⟨_,Rs.tmp rfl Rs.nil,_,Sub.none _,by rw [hinv,List.drop_length,List.drop_of_length_le Ev.wM,cmpL];simp [outOf],rfl,rfl⟩
end Go.Proofs.J
namespace Go.Proofs.J
open Go.Ev Go
theorem cmpEs_drop {x y:List El} {j:Nat} (hx:j < x.length) (hy:j < y.length):cmpEs (x.drop j) (y.drop j)=orI (cmpE x[j] y[j]) (cmpEs (x.drop (j+1)) (y.drop (j+1))):=by
 rw [List.drop_eq_getElem_cons hx,List.drop_eq_getElem_cons hy,cmpEs]
theorem cmpFunc {Z:Zone} {v w fv:Value} {x y:List El} (s:ElsR Z v x) (t:ElsR Z w y) (hx:x.length≤2199023255552) (hy:y.length≤2199023255552)
  (hp:∀ i (h:i < x.length) (h':i < y.length) cs ct,ElR Z x[i] cs→ElR Z y[i] ct→Cz M fv [.agg ⟨cs⟩,.agg ⟨ct⟩] Z [] (fun v' Z' A'=>v'=.int .i64 (cmpE x[i] y[i])∧Z=Z'∧A'=[])) :
  Cz M (.func (.func 102) #[] #[]) [v,w,fv] Z [] (fun v' Z' A'=>v'=.int .i64 (cmpEs x y)∧Z=Z'∧A'=[]):=by
 obtain ⟨q,c,rfl⟩:=s.form
 obtain ⟨r,e,rfl⟩:=t.form
 obtain ⟨us,sx,rx⟩:=s
 obtain ⟨ut,sy,ry⟩:=t
 refine Cz.fn (f:=Tryz.f102) Ev.cM rfl rfl rfl _ rfl ?_
 repeat first|refine go ?_|with_reducible intro _
 refine Wk.loop (fun mm L Z' A'=>∃ j:Nat,j≤x.length∧mm=x.length - j∧Z=Z'∧Sub A' []∧(j≤y.length∧cmpEs x y=cmpEs (x.drop j) (y.drop j))∧Kp L [(0,.slice q x.length c),(1,.slice r y.length e),(2,fv),(11,.slice q x.length c),(12,.int .i64 x.length),(13,.int .i64 j)]) (x.length) ⟨0,Nat.zero_le _,rfl,rfl,Ev.sM,⟨Nat.zero_le _,rfl⟩,Ev.kM⟩ ?_
 rintro mm L Z' A' - ⟨j,hjj,rfl,rfl,hsub,invj,hk⟩
 refine Wk.drop hsub ?_
 refine Wk.kp hk ?_
 clear hk hsub
 obtain ⟨hjy,hinv⟩:=invj
 repeat first|refine go ?_|with_reducible intro _
 refine Wk.cond rfl (fun hc=>?_) (fun hc=>?_)
 ·have hlt:j < x.length:=by simp at hc;omega
  clear hc
  obtain ⟨k',n',x1,m1,y1,x2,m2,y2,gx,rrx⟩:=rx.get j hlt
  repeat first|refine go ?_|with_reducible intro _
  refine Wk.cond rfl (fun hc=>?_) (fun hc=>?_)
  ·have h:j=y.length:=by simp at hc;omega
   subst h
   repeat first|refine go ?_|with_reducible intro _
   refine Wk.ret ⟨_,Rs.tmp rfl Rs.nil,_,Sub.none _,by rw [hinv,List.drop_eq_getElem_cons hlt,List.drop_length,cmpEs];simp [outOf],rfl,rfl⟩
  ·have hlt2:j < y.length:=by simp at hc;omega
   clear hc
   obtain ⟨k2,n2,z1,o1,w1,z2,o2,w2,gy,rry⟩:=ry.get j hlt2
   repeat first|refine go ?_|with_reducible intro _
   refine Wk.call rfl rfl (Spl.none _) (hp j hlt hlt2 _ _ rrx rry) rfl rfl rfl ?_
   rintro v' Z' A' hz ⟨rfl,rfl,rfl⟩
   refine Wk.dropr (Sub.none _) ?_
   repeat first|refine go ?_|with_reducible intro _
   refine Wk.cond rfl (fun hc=>?_) (fun hc=>?_)
   ·have h:¬ cmpE x[j] y[j]=0:=by simpa using hc
    repeat first|refine go ?_|with_reducible intro _
    refine Wk.ret ⟨_,Rs.tmp rfl Rs.nil,_,Sub.none _,by rw [hinv,cmpEs_drop hlt hlt2];simp [outOf,orI,h],rfl,rfl⟩
   ·have h:cmpE x[j] y[j]=0:=by simpa using hc
    clear hc
    repeat first|refine go ?_|with_reducible intro _
    refine Wk.inv ⟨_,by omega,j+1,by omega,rfl,rfl,Ev.sM,(⟨hlt2,by rw [hinv,cmpEs_drop hlt hlt2,h];simp [orI]⟩),Ev.kM⟩
 ·have hjn:j=x.length:=by simp at hc;omega
  subst hjn
  repeat first|refine go ?_|with_reducible intro _
  refine Wk.cond rfl (fun hc=>?_) (fun hc=>?_)
  ·have h:x.length < y.length:=by simpa using hc
   repeat first|refine go ?_|with_reducible intro _
   refine Wk.ret ⟨_,Rs.tmp rfl Rs.nil,_,Sub.none _,by rw [hinv,List.drop_length,List.drop_eq_getElem_cons h,cmpEs];simp [outOf],rfl,rfl⟩
  ·have h:y.length=x.length:=by simp at hc;omega
   repeat first|refine go ?_|with_reducible intro _
   refine Wk.ret ⟨_,Rs.tmp rfl Rs.nil,_,Sub.none _,by rw [hinv,List.drop_length,List.drop_of_length_le Ev.wM,cmpEs];simp [outOf],rfl,rfl⟩
theorem compareE:∀ (d d':Nat) {Z:Zone} {ca cb:List Value} {a b:El},ElR Z a ca→ElR Z b cb→a.Fit d→b.Fit d' →
  Cz M (.func (.func 68) #[] #[]) [.agg ⟨ca⟩,.agg ⟨cb⟩] Z [] (fun v' Z' A'=>v'=.int .i64 (cmpE a b)∧Z=Z'∧A'=[])
 | 0,d',Z,ca,cb,a,b,ha,hb,fa,fb=>fa.pos.elim
 | d+1,0,Z,ca,cb,a,b,ha,hb,fa,fb=>fb.pos.elim
 | d+1,d'+1,Z,ca,cb,a,b,ha,hb,fa,fb=>by
  refine Cz.shrink ?_
  obtain ⟨q1,q2,q3,q4,ua,rfl,ak,as_,aL⟩:=ha.form
  obtain ⟨r1,r2,r3,r4,ub,rfl,bk,bs_,bL⟩:=hb.form
  have t1:=fa.sm
  have t2:=fb.sm
  refine Cz.fn (f:=Tryz.f68) Ev.cM rfl rfl rfl _ rfl ?_
  repeat first|refine go ?_|with_reducible intro _
  refine Wk.drawr (ms:=[0,1,0,4,15,0,32,0,128,511,0,1024,0,4096,16383,0,32768,0,131072,524287,1048575,2097151,4194303]) (l:=[0,1,2,3,5,6,7,8,10,11,12,13,15,16,17,18,4,9,14,19,20,21,22]) Ev.cM Ev.cM Ev.cM rfl ?_
  repeat first|refine go ?_|with_reducible intro _
  refine Wk.callD rfl rfl (Spl.none _) cmpU8 rfl rfl fun v9 Z9 A' hz9 hq=>?_
  obtain ⟨rfl,rfl,rfl⟩:=hq
  refine ⟨?_,?_⟩
  ·exact Ev.pM3
  repeat first|refine go ?_|with_reducible intro _
  refine Wk.callD rfl rfl (Spl.none _) cmpInt rfl rfl fun v9 Z9 A' hz9 hq=>?_
  obtain ⟨rfl,rfl,rfl⟩:=hq
  refine ⟨?_,?_⟩
  ·exact Ev.pM3
  repeat first|refine go ?_|with_reducible intro _
  refine Wk.callD rfl rfl (Spl.none _) (cmpInts ak bk t1.1 t2.1) rfl rfl fun v9 Z9 A' hz9 hq=>?_
  obtain ⟨rfl,rfl,rfl⟩:=hq
  refine ⟨?_,?_⟩
  ·exact Ev.pM3
  repeat first|refine go ?_|with_reducible intro _
  refine Wk.callD rfl rfl (Spl.none _) (cmpFunc ⟨_,as_,aL⟩ ⟨_,bs_,bL⟩ t1.2.1 t2.2.1 fun i h h' cs ct hs ht=>compareE d d' hs ht (fa.kid h) (fb.kid h')) rfl rfl fun v9 Z9 A' hz9 hq=>?_
  obtain ⟨rfl,rfl,rfl⟩:=hq
  refine ⟨?_,?_⟩
  ·exact Ev.pM3
  repeat first|refine go ?_|with_reducible intro _
  refine Wk.bs (cs:=[.int .i64 _,.int .i64 _,.int .i64 _,.int .i64 _]) rfl rfl rfl rfl rfl rfl rfl fun b25=>?_
  first|refine Wk.freezer Rem.head fun Z1 e1 h25=>?_|refine Wk.freeze Rem.head fun Z1 e1 h25=>?_
  have s25:Sl Z1 1 (.slice (some ⟨b25,0,none⟩) 4 4) 4 (nums [cmpI a.kind b.kind,cmpI a.n b.n,cmpL a.keys b.keys,cmpEs a.kids b.kids]):=.inr ⟨b25,0,4,_,_,_,rfl,Nat.le_refl _,h25,rfl,.inl rfl⟩
  repeat first|refine go ?_|with_reducible intro _
  refine Wk.call rfl rfl (Spl.none _) (cmpOr (l:=[cmpI a.kind b.kind,cmpI a.n b.n,cmpL a.keys b.keys,cmpEs a.kids b.kids]) s25 (by simp)) Ev.cM rfl rfl ?_
  rintro v' Z' A' hz ⟨rfl,rfl,rfl⟩
  repeat first|refine go ?_|with_reducible intro _
  refine Wk.ret ⟨_,Rs.tmp rfl Rs.nil,_,Sub.none _,?_,rfl⟩
  rw [orL_4,cmpE_eq];rfl
end Go.Proofs.J
namespace Go.Proofs.J
open Go.Ev Go
theorem CSE_ok {l:Lat} (ht:l.Th) (h:CSE l.1 l.2=0):TsOk l.1∧l.2.Ok:=by
 obtain ⟨z1,z2,z3,z4⟩:=CSE_zero h
 refine ⟨⟨?_,z2,ht.chk.2.1,ht.chk.1⟩,z3⟩
 intro t htm
 unfold CSE at h
 split at h
 ·cases h
 split at h
 ·cases h
 split at h
 ·cases h
 split at h
 ·cases h
 ·rename_i o;exact Classical.not_not.1 o t htm
theorem ElsE_zero {l:Lat} {els:List El} (h:ElsE l els=0):CSE l.1 l.2=0∧∀ e∈els,IsW l.1 4 l.2 e∧¬ e.Great:=by
 unfold ElsE at h
 split at h
 ·rename_i h1;exact absurd h h1
 ·rename_i h1
  split at h
  ·rename_i h2
   refine ⟨Classical.not_not.1 h1,fun e he=>?_⟩
   obtain ⟨i,hi,rfl⟩:=List.getElem_of_mem he
   exact IsE_iff.1 (h2 i hi)
  ·cases h
end Go.Proofs.J
namespace Go.Proofs.J
open Go.Ev Go
end Go.Proofs.J
namespace Go.Proofs.J
open Go.Ev Go
end Go.Proofs.J
namespace Go.Proofs.J
open Go.Ev Go
end Go.Proofs.J
namespace Go.Proofs.J
open Go.Ev Go
def PrUp (t:Tbl) (i a b:Nat) (P:List Bool):Prop:=P.length=t.elems.length∧∀ x (h:x < P.length),P[x]=true↔(1≤x∧x < i∧∀ a' b',b' < t.elems.length→(a' < a∨a'=a∧b' < b)→t.jn a' b'=x→a'=x∨b'=x)
theorem PrUp.none {t:Tbl} {i a b:Nat} {P:List Bool} (h:PrUp t i a b P) (hj:t.jn a b=a∨t.jn a b=b):PrUp t i a (b+1) P:=by
 refine ⟨h.1,fun x hx=>(h.2 x hx).trans ⟨fun ⟨q1,q2,q3⟩=>⟨q1,q2,fun a' b' hb' hd he=>?_⟩,fun ⟨q1,q2,q3⟩=>⟨q1,q2,fun a' b' hb' hd=>q3 a' b' hb' Ev.wM⟩⟩⟩
 by_cases e:a'=a∧b'=b
 ·obtain ⟨rfl,rfl⟩:=e
  rw [he] at hj
  exact hj.imp Eq.symm Eq.symm
 ·exact q3 a' b' hb' Ev.wM he
end Go.Proofs.J
namespace Go.Proofs.J
open Go.Ev Go
end Go.Proofs.J
namespace Go.Proofs.J
open Go.Ev Go
end Go.Proofs.J
namespace Go.Proofs.J
open Go.Ev Go
section
variable {fn:FuncId} {rd:Option Nat} {n:Nat} {Q:PQ} {k:List KI} {L:Lo} {Z:Zone} {A:List SA}
end
end Go.Proofs.J
