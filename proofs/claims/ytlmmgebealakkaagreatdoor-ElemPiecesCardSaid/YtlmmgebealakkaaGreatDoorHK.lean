/- HK -/
import Derived.Test.YtlmmgebealakkaaGreatDoorHA
import Derived.Test.YtlmmgebealakkaaGreatDoorPL
import Derived.Test.YtlmmgebealakkaaGreatDoorEA
import Derived.Test.YtlmmgebealakkaaGreatDoorEvF
set_option linter.unusedVariables false
set_option maxHeartbeats 4000000
set_option maxRecDepth 100000
set_option linter.unusedSimpArgs false
namespace Go.Proofs.J
open Go.Ev Go
theorem nanI {Z:Zone} {x:Int}:Cz M (.func (.func 150) #[] #[]) [.int .i64 x] Z [] (fun v' Z' A'=>v'=.bool false∧Z=Z'∧A'=[]):=by
 refine Cz.fn (f:=Tryz.f150) Ev.cM rfl rfl rfl _ rfl ?_
 repeat first|refine go ?_|with_reducible intro _
 refine Wk.ret ⟨_,Rs.tmp rfl Rs.nil,_,Sub.none _,by simp [outOf],rfl,rfl⟩
theorem cmpInt {Z:Zone} {x y:Int}:Cz M (.func (.func 100) #[] #[]) [.int .i64 x,.int .i64 y] Z [] (fun v' Z' A'=>v'=.int .i64 (cmpI x y)∧Z=Z'∧A'=[]):=by
 refine Cz.fn (f:=Tryz.f100) Ev.cM rfl rfl rfl _ rfl ?_
 repeat first|refine go ?_|with_reducible intro _
 refine Wk.call rfl rfl (Spl.none _) (nanI) rfl rfl rfl ?_
 rintro v' Z' A' hz ⟨rfl,rfl,rfl⟩
 repeat first|refine go ?_|with_reducible intro _
 refine Wk.call rfl rfl (Spl.none _) (nanI) rfl rfl rfl ?_
 rintro v' Z' A' hz ⟨rfl,rfl,rfl⟩
 repeat first|refine go ?_|with_reducible intro _
 refine Wk.cond rfl (fun hc=>?_) (fun hc=>?_)
 ·have h:x < y:=by simpa using hc
  repeat first|refine go ?_|with_reducible intro _
  refine Wk.ret ⟨_,Rs.tmp rfl Rs.nil,_,Sub.none _,by simp [outOf,cmpI,h],rfl,rfl⟩
 ·have h:¬ x < y:=by simpa using hc
  repeat first|refine go ?_|with_reducible intro _
  refine Wk.cond rfl (fun hc=>?_) (fun hc=>?_)
  ·have h2:y < x:=by simpa using hc
   repeat first|refine go ?_|with_reducible intro _
   refine Wk.ret ⟨_,Rs.tmp rfl Rs.nil,_,Sub.none _,by simp [outOf,cmpI,h,h2],rfl,rfl⟩
  ·have h2:¬ y < x:=by simpa using hc
   repeat first|refine go ?_|with_reducible intro _
   refine Wk.ret ⟨_,Rs.tmp rfl Rs.nil,_,Sub.none _,by simp [outOf,cmpI,h,h2],rfl,rfl⟩
theorem nanU {Z:Zone} {x:Int}:Cz M (.func (.func 149) #[] #[]) [.int .u8 x] Z [] (fun v' Z' A'=>v'=.bool false∧Z=Z'∧A'=[]):=by
 refine Cz.fn (f:=Tryz.f149) Ev.cM rfl rfl rfl _ rfl ?_
 repeat first|refine go ?_|with_reducible intro _
 refine Wk.ret ⟨_,Rs.tmp rfl Rs.nil,_,Sub.none _,by simp [outOf],rfl,rfl⟩
theorem cmpU8 {Z:Zone} {x y:Int}:Cz M (.func (.func 99) #[] #[]) [.int .u8 x,.int .u8 y] Z [] (fun v' Z' A'=>v'=.int .i64 (cmpI x y)∧Z=Z'∧A'=[]):=by
 refine Cz.fn (f:=Tryz.f99) Ev.cM rfl rfl rfl _ rfl ?_
 repeat first|refine go ?_|with_reducible intro _
 refine Wk.call rfl rfl (Spl.none _) (nanU) rfl rfl rfl ?_
 rintro v' Z' A' hz ⟨rfl,rfl,rfl⟩
 repeat first|refine go ?_|with_reducible intro _
 refine Wk.call rfl rfl (Spl.none _) (nanU) rfl rfl rfl ?_
 rintro v' Z' A' hz ⟨rfl,rfl,rfl⟩
 repeat first|refine go ?_|with_reducible intro _
 refine Wk.cond rfl (fun hc=>?_) (fun hc=>?_)
 ·have h:x < y:=by simpa using hc
  repeat first|refine go ?_|with_reducible intro _
  refine Wk.ret ⟨_,Rs.tmp rfl Rs.nil,_,Sub.none _,by simp [outOf,cmpI,h],rfl,rfl⟩
 ·have h:¬ x < y:=by simpa using hc
  repeat first|refine go ?_|with_reducible intro _
  refine Wk.cond rfl (fun hc=>?_) (fun hc=>?_)
  ·have h2:y < x:=by simpa using hc
   repeat first|refine go ?_|with_reducible intro _
   refine Wk.ret ⟨_,Rs.tmp rfl Rs.nil,_,Sub.none _,by simp [outOf,cmpI,h,h2],rfl,rfl⟩
  ·have h2:¬ y < x:=by simpa using hc
   repeat first|refine go ?_|with_reducible intro _
   refine Wk.ret ⟨_,Rs.tmp rfl Rs.nil,_,Sub.none _,by simp [outOf,cmpI,h,h2],rfl,rfl⟩
def orL:List Int→Int
 | []=>0
 | a::l=>orI a (orL l)
theorem orL_4 (a b c d:Int):orL [a,b,c,d]=orI a (orI b (orI c d)):=by
 simp only [orL]
 congr 3
 unfold orI;split
 ·rfl
 ·rename_i h;simp at h;exact h.symm
theorem orL_drop {l:List Int} {j:Nat} (h:j < l.length) (e:l[j]=0):orL (l.drop j)=orL (l.drop (j+1)):=by
 rw [List.drop_eq_getElem_cons h,orL,e];simp [orI]
theorem cmpOr {Z:Zone} {v:Value} {l:List Int} (s:Sl Z 1 v l.length (nums l)) (hn:l.length≤1000000) :
  Cz M (.func (.func 98) #[] #[]) [v] Z [] (fun v' Z' A'=>v'=.int .i64 (orL l)∧Z=Z'∧A'=[]):=by
 obtain ⟨q,c,rfl⟩:=s.form
 refine Cz.fn (f:=Tryz.f98) Ev.cM rfl rfl rfl _ rfl ?_
 repeat first|refine go ?_|with_reducible intro _
 refine Wk.loop (fun mm L Z' A'=>∃ j:Nat,j≤l.length∧mm=l.length - j∧Z=Z'∧Sub A' []∧(orL l=orL (l.drop j))∧Kp L [(3,.int .i64 0),(6,.slice q l.length c),(7,.int .i64 l.length),(8,.int .i64 j)]) (l.length) ⟨0,Nat.zero_le _,rfl,rfl,Ev.sM,rfl,Ev.kM⟩ ?_
 rintro mm L Z' A' - ⟨j,hjj,rfl,rfl,hsub,invj,hk⟩
 refine Wk.drop hsub ?_
 refine Wk.kp hk ?_
 clear hk hsub
 repeat first|refine go ?_|with_reducible intro _
 refine Wk.cond rfl (fun hc=>?_) (fun hc=>?_)
 ·have hlt:j < l.length:=by simp at hc;omega
  clear hc
  repeat first|refine go ?_|with_reducible intro _
  refine Wk.cond rfl (fun hc=>?_) (fun hc=>?_)
  ·have h:¬ l[j]=0:=by simpa using hc
   repeat first|refine go ?_|with_reducible intro _
   refine Wk.ret ⟨_,Rs.tmp rfl Rs.nil,_,Sub.none _,by rw [invj,List.drop_eq_getElem_cons hlt,orL];simp [outOf,orI,h],rfl,rfl⟩
  ·have h:l[j]=0:=by simpa using hc
   clear hc
   repeat first|refine go ?_|with_reducible intro _
   refine Wk.inv ⟨_,by omega,j+1,by omega,rfl,rfl,Ev.sM,(invj.trans (orL_drop hlt h)),Ev.kM⟩
 ·have hjn:j=l.length:=by simp at hc;omega
  subst hjn
  repeat first|refine go ?_|with_reducible intro _
  refine Wk.ret ⟨_,Rs.tmp rfl Rs.nil,_,Sub.none _,by rw [invj];simp [outOf,orL],rfl,rfl⟩
theorem cmpL_drop {x y:List Int} {j:Nat} (hx:j < x.length) (hy:j < y.length):cmpL (x.drop j) (y.drop j)=orI (cmpI x[j] y[j]) (cmpL (x.drop (j+1)) (y.drop (j+1))):=by
 rw [List.drop_eq_getElem_cons hx,List.drop_eq_getElem_cons hy,cmpL]
theorem cmpInts {Z:Zone} {v w:Value} {x y:List Int} (s:Sl Z 1 v x.length (nums x)) (t:Sl Z 1 w y.length (nums y)) (hx:x.length≤17592186044416) (hy:y.length≤17592186044416) :
  Cz M (.func (.func 101) #[] #[]) [v,w] Z [] (fun v' Z' A'=>v'=.int .i64 (cmpL x y)∧Z=Z'∧A'=[]):=by
 obtain ⟨q,c,rfl⟩:=s.form
 obtain ⟨r,e,rfl⟩:=t.form
 refine Cz.fn (f:=Tryz.f101) Ev.cM rfl rfl rfl _ rfl ?_
 repeat first|refine go ?_|with_reducible intro _
 refine Wk.loop (fun mm L Z' A'=>∃ j:Nat,j≤x.length∧mm=x.length - j∧Z=Z'∧Sub A' []∧(j≤y.length∧cmpL x y=cmpL (x.drop j) (y.drop j))∧Kp L [(0,.slice q x.length c),(1,.slice r y.length e),(9,.slice q x.length c),(10,.int .i64 x.length),(11,.int .i64 j)]) (x.length) ⟨0,Nat.zero_le _,rfl,rfl,Ev.sM,⟨Nat.zero_le _,rfl⟩,Ev.kM⟩ ?_
 rintro mm L Z' A' - ⟨j,hjj,rfl,rfl,hsub,invj,hk⟩
 refine Wk.drop hsub ?_
 refine Wk.kp hk ?_
 clear hk hsub
 obtain ⟨hjy,hinv⟩:=invj
 repeat first|refine go ?_|with_reducible intro _
 refine Wk.cond rfl (fun hc=>?_) (fun hc=>?_)
 ·have hlt:j < x.length:=by simp at hc;omega
  clear hc
  repeat first|refine go ?_|with_reducible intro _
  refine Wk.cond rfl (fun hc=>?_) (fun hc=>?_)
  ·have h:j=y.length:=by simp at hc;omega
   subst h
   repeat first|refine go ?_|with_reducible intro _
   refine Wk.ret ⟨_,Rs.tmp rfl Rs.nil,_,Sub.none _,by rw [hinv,List.drop_eq_getElem_cons hlt,List.drop_length,cmpL];simp [outOf],rfl,rfl⟩
  ·have hlt2:j < y.length:=by simp at hc;omega
   clear hc
   repeat first|refine go ?_|with_reducible intro _
   refine Wk.call rfl rfl (Spl.none _) (cmpInt) rfl rfl rfl ?_
   rintro v' Z' A' hz ⟨rfl,rfl,rfl⟩
   repeat first|refine go ?_|with_reducible intro _
   refine Wk.cond rfl (fun hc=>?_) (fun hc=>?_)
   ·have h:¬ cmpI x[j] y[j]=0:=by simpa using hc
    repeat first|refine go ?_|with_reducible intro _
    refine Wk.ret ⟨_,Rs.tmp rfl Rs.nil,_,Sub.none _,by rw [hinv,cmpL_drop hlt hlt2];simp [outOf,orI,h],rfl,rfl⟩
   ·have h:cmpI x[j] y[j]=0:=by simpa using hc
    clear hc
    repeat first|refine go ?_|with_reducible intro _
    refine Wk.inv ⟨_,by omega,j+1,by omega,rfl,rfl,Ev.sM,(⟨hlt2,by rw [hinv,cmpL_drop hlt hlt2,h];simp [orI]⟩),Ev.kM⟩
 ·have hjn:j=x.length:=by simp at hc;omega
  subst hjn
  repeat first|refine go ?_|with_reducible intro _
  refine Wk.cond rfl (fun hc=>?_) (fun hc=>?_)
  ·have h:x.length < y.length:=by simpa using hc
   repeat first|refine go ?_|with_reducible intro _
   refine Wk.ret ⟨_,Rs.tmp rfl Rs.nil,_,Sub.none _,by rw [hinv,List.drop_length,List.drop_eq_getElem_cons h,cmpL];simp [outOf],rfl,rfl⟩
  ·have h:y.length=x.length:=by simp at hc;omega
   repeat first|refine go ?_|with_reducible intro _
   refine Wk.ret ⟨_,Rs.tmp rfl Rs.nil,_,Sub.none _,by rw [hinv,List.drop_length,List.drop_of_length_le Ev.wM,cmpL];simp [outOf],rfl,rfl⟩
end Go.Proofs.J
namespace Go.Proofs.J
open Go.Ev Go
theorem cmpEs_drop {x y:List El} {j:Nat} (hx:j < x.length) (hy:j < y.length):cmpEs (x.drop j) (y.drop j)=orI (cmpE x[j] y[j]) (cmpEs (x.drop (j+1)) (y.drop (j+1))):=by
 rw [List.drop_eq_getElem_cons hx,List.drop_eq_getElem_cons hy,cmpEs]
theorem cmpFunc {Z:Zone} {v w fv:Value} {x y:List El} (s:ElsR Z v x) (t:ElsR Z w y) (hx:x.length≤2199023255552) (hy:y.length≤2199023255552)
  (hp:∀ i (h:i < x.length) (h':i < y.length) cs ct,ElR Z x[i] cs→ElR Z y[i] ct→Cz M fv [.agg ⟨cs⟩,.agg ⟨ct⟩] Z [] (fun v' Z' A'=>v'=.int .i64 (cmpE x[i] y[i])∧Z=Z'∧A'=[])) :
  Cz M (.func (.func 102) #[] #[]) [v,w,fv] Z [] (fun v' Z' A'=>v'=.int .i64 (cmpEs x y)∧Z=Z'∧A'=[]):=by
 obtain ⟨q,c,rfl⟩:=s.form
 obtain ⟨r,e,rfl⟩:=t.form
 obtain ⟨us,sx,rx⟩:=s
 obtain ⟨ut,sy,ry⟩:=t
 refine Cz.fn (f:=Tryz.f102) Ev.cM rfl rfl rfl _ rfl ?_
 repeat first|refine go ?_|with_reducible intro _
 refine Wk.loop (fun mm L Z' A'=>∃ j:Nat,j≤x.length∧mm=x.length - j∧Z=Z'∧Sub A' []∧(j≤y.length∧cmpEs x y=cmpEs (x.drop j) (y.drop j))∧Kp L [(0,.slice q x.length c),(1,.slice r y.length e),(2,fv),(11,.slice q x.length c),(12,.int .i64 x.length),(13,.int .i64 j)]) (x.length) ⟨0,Nat.zero_le _,rfl,rfl,Ev.sM,⟨Nat.zero_le _,rfl⟩,Ev.kM⟩ ?_
 rintro mm L Z' A' - ⟨j,hjj,rfl,rfl,hsub,invj,hk⟩
 refine Wk.drop hsub ?_
 refine Wk.kp hk ?_
 clear hk hsub
 obtain ⟨hjy,hinv⟩:=invj
 repeat first|refine go ?_|with_reducible intro _
 refine Wk.cond rfl (fun hc=>?_) (fun hc=>?_)
 ·have hlt:j < x.length:=by simp at hc;omega
  clear hc
  obtain ⟨k',n',x1,m1,y1,x2,m2,y2,gx,rrx⟩:=rx.get j hlt
  repeat first|refine go ?_|with_reducible intro _
  refine Wk.cond rfl (fun hc=>?_) (fun hc=>?_)
  ·have h:j=y.length:=by simp at hc;omega
   subst h
   repeat first|refine go ?_|with_reducible intro _
   refine Wk.ret ⟨_,Rs.tmp rfl Rs.nil,_,Sub.none _,by rw [hinv,List.drop_eq_getElem_cons hlt,List.drop_length,cmpEs];simp [outOf],rfl,rfl⟩
  ·have hlt2:j < y.length:=by simp at hc;omega
   clear hc
   obtain ⟨k2,n2,z1,o1,w1,z2,o2,w2,gy,rry⟩:=ry.get j hlt2
   repeat first|refine go ?_|with_reducible intro _
   refine Wk.call rfl rfl (Spl.none _) (hp j hlt hlt2 _ _ rrx rry) rfl rfl rfl ?_
   rintro v' Z' A' hz ⟨rfl,rfl,rfl⟩
   refine Wk.dropr (Sub.none _) ?_
   repeat first|refine go ?_|with_reducible intro _
   refine Wk.cond rfl (fun hc=>?_) (fun hc=>?_)
   ·have h:¬ cmpE x[j] y[j]=0:=by simpa using hc
    repeat first|refine go ?_|with_reducible intro _
    refine Wk.ret ⟨_,Rs.tmp rfl Rs.nil,_,Sub.none _,by rw [hinv,cmpEs_drop hlt hlt2];simp [outOf,orI,h],rfl,rfl⟩
   ·have h:cmpE x[j] y[j]=0:=by simpa using hc
    clear hc
    repeat first|refine go ?_|with_reducible intro _
    refine Wk.inv ⟨_,by omega,j+1,by omega,rfl,rfl,Ev.sM,(⟨hlt2,by rw [hinv,cmpEs_drop hlt hlt2,h];simp [orI]⟩),Ev.kM⟩
 ·have hjn:j=x.length:=by simp at hc;omega
  subst hjn
  repeat first|refine go ?_|with_reducible intro _
  refine Wk.cond rfl (fun hc=>?_) (fun hc=>?_)
  ·have h:x.length < y.length:=by simpa using hc
   repeat first|refine go ?_|with_reducible intro _
   refine Wk.ret ⟨_,Rs.tmp rfl Rs.nil,_,Sub.none _,by rw [hinv,List.drop_length,List.drop_eq_getElem_cons h,cmpEs];simp [outOf],rfl,rfl⟩
  ·have h:y.length=x.length:=by simp at hc;omega
   repeat first|refine go ?_|with_reducible intro _
   refine Wk.ret ⟨_,Rs.tmp rfl Rs.nil,_,Sub.none _,by rw [hinv,List.drop_length,List.drop_of_length_le Ev.wM,cmpEs];simp [outOf],rfl,rfl⟩
theorem compareE:∀ (d d':Nat) {Z:Zone} {ca cb:List Value} {a b:El},ElR Z a ca→ElR Z b cb→a.Fit d→b.Fit d' →
  Cz M (.func (.func 68) #[] #[]) [.agg ⟨ca⟩,.agg ⟨cb⟩] Z [] (fun v' Z' A'=>v'=.int .i64 (cmpE a b)∧Z=Z'∧A'=[])
 | 0,d',Z,ca,cb,a,b,ha,hb,fa,fb=>fa.pos.elim
 | d+1,0,Z,ca,cb,a,b,ha,hb,fa,fb=>fb.pos.elim
 | d+1,d'+1,Z,ca,cb,a,b,ha,hb,fa,fb=>by
  refine Cz.shrink ?_
  obtain ⟨q1,q2,q3,q4,ua,rfl,ak,as_,aL⟩:=ha.form
  obtain ⟨r1,r2,r3,r4,ub,rfl,bk,bs_,bL⟩:=hb.form
  have t1:=fa.sm
  have t2:=fb.sm
  refine Cz.fn (f:=Tryz.f68) Ev.cM rfl rfl rfl _ rfl ?_
  repeat first|refine go ?_|with_reducible intro _
  refine Wk.drawr (ms:=[0,1,0,4,15,0,32,0,128,511,0,1024,0,4096,16383,0,32768,0,131072,524287,1048575,2097151,4194303]) (l:=[0,1,2,3,5,6,7,8,10,11,12,13,15,16,17,18,4,9,14,19,20,21,22]) Ev.cM Ev.cM Ev.cM rfl ?_
  repeat first|refine go ?_|with_reducible intro _
  refine Wk.callD rfl rfl (Spl.none _) cmpU8 rfl rfl fun v9 Z9 A' hz9 hq=>?_
  obtain ⟨rfl,rfl,rfl⟩:=hq
  refine ⟨?_,?_⟩
  ·exact Ev.pM2
  repeat first|refine go ?_|with_reducible intro _
  refine Wk.callD rfl rfl (Spl.none _) cmpInt rfl rfl fun v9 Z9 A' hz9 hq=>?_
  obtain ⟨rfl,rfl,rfl⟩:=hq
  refine ⟨?_,?_⟩
  ·exact Ev.pM2
  repeat first|refine go ?_|with_reducible intro _
  refine Wk.callD rfl rfl (Spl.none _) (cmpInts ak bk t1.1 t2.1) rfl rfl fun v9 Z9 A' hz9 hq=>?_
  obtain ⟨rfl,rfl,rfl⟩:=hq
  refine ⟨?_,?_⟩
  ·exact Ev.pM2
  repeat first|refine go ?_|with_reducible intro _
  refine Wk.callD rfl rfl (Spl.none _) (cmpFunc ⟨_,as_,aL⟩ ⟨_,bs_,bL⟩ t1.2.1 t2.2.1 fun i h h' cs ct hs ht=>compareE d d' hs ht (fa.kid h) (fb.kid h')) rfl rfl fun v9 Z9 A' hz9 hq=>?_
  obtain ⟨rfl,rfl,rfl⟩:=hq
  refine ⟨?_,?_⟩
  ·exact Ev.pM2
  repeat first|refine go ?_|with_reducible intro _
  refine Wk.bs (cs:=[.int .i64 _,.int .i64 _,.int .i64 _,.int .i64 _]) rfl rfl rfl rfl rfl rfl rfl fun b25=>?_
  first|refine Wk.freezer Rem.head fun Z1 e1 h25=>?_|refine Wk.freeze Rem.head fun Z1 e1 h25=>?_
  have s25:Sl Z1 1 (.slice (some ⟨b25,0,none⟩) 4 4) 4 (nums [cmpI a.kind b.kind,cmpI a.n b.n,cmpL a.keys b.keys,cmpEs a.kids b.kids]):=.inr ⟨b25,0,4,_,_,_,rfl,Nat.le_refl _,h25,rfl,.inl rfl⟩
  repeat first|refine go ?_|with_reducible intro _
  refine Wk.call rfl rfl (Spl.none _) (cmpOr (l:=[cmpI a.kind b.kind,cmpI a.n b.n,cmpL a.keys b.keys,cmpEs a.kids b.kids]) s25 (by simp)) Ev.cM rfl rfl ?_
  rintro v' Z' A' hz ⟨rfl,rfl,rfl⟩
  repeat first|refine go ?_|with_reducible intro _
  refine Wk.ret ⟨_,Rs.tmp rfl Rs.nil,_,Sub.none _,?_,rfl⟩
  rw [orL_4,cmpE_eq];rfl
theorem isGreat_:∀ (d:Nat) {Z:Zone} {cs:List Value} {e:El},ElR Z e cs→e.Fit d →
  Cz M (.func (.func 104) #[] #[]) [.agg ⟨cs⟩] Z [] (fun v' Z' A'=>Bis v' e.Great∧Z=Z'∧A'=[])
 | 0,Z,cs,e,h,f=>f.pos.elim
 | d+1,Z,cs,e,h,f=>by
  obtain ⟨q1,q2,q3,q4,us,rfl,ek,es,eL⟩:=h.form
  have t1:=f.sm
  refine Cz.fn (f:=Tryz.f104) Ev.cM rfl rfl rfl _ rfl ?_
  repeat first|refine go ?_|with_reducible intro _
  refine Wk.caser 7 rfl (fun hc=>?_) (fun hc=>?_)
  ·have h:40 < e.keys.length:=by simp at hc;omega
   repeat first|refine go ?_|with_reducible intro _
   refine Wk.ret ⟨_,Rs.tmp rfl Rs.nil,_,Sub.none _,Bis.of (by rw [El.Great_iff];simp [h]),rfl,rfl⟩
  ·have h:¬ 40 < e.keys.length:=by simp at hc;omega
   repeat first|refine go ?_|with_reducible intro _
   refine Wk.call rfl rfl (Spl.none _) (containsEls (fun i=>∃ h:i < e.kids.length,e.kids[i].Great) es t1.2.1 (fun i hi=>by
    obtain ⟨k',n',x1,m1,y1,x2,m2,y2,gx,rr⟩:=eL.get i hi
    exact ⟨k',n',x1,m1,y1,x2,m2,y2,gx,(isGreat_ d rr (f.kid hi)).mono fun v' Z' A' _ q=>⟨q.1.imp ⟨fun h=>⟨hi,h⟩,fun ⟨_,h⟩=>h⟩,q.2⟩⟩)) rfl rfl rfl ?_
   rintro v' Z' A' hz ⟨hb,rfl,rfl⟩
   obtain ⟨b,rfl,hb⟩:=hb
   repeat first|refine go ?_|with_reducible intro _
   refine Wk.ret ⟨_,Rs.tmp rfl Rs.nil,_,Sub.none _,Bis.of (by rw [hb,El.Great_iff];simp only [h,false_or];exact ⟨fun ⟨i,hi,_,g⟩=>⟨_,List.getElem_mem hi,g⟩,fun ⟨x,hx,g⟩=>let ⟨i,hi,e⟩:=List.getElem_of_mem hx;⟨i,hi,hi,e▸g⟩⟩),rfl,rfl⟩
end Go.Proofs.J
namespace Go.Proofs.J
open Go.Ev Go
theorem CSE_ok {l:Lat} (ht:l.Th) (h:CSE l.1 l.2=0):TsOk l.1∧l.2.Ok:=by
 obtain ⟨z1,z2,z3,z4⟩:=CSE_zero h
 refine ⟨⟨?_,z2,ht.chk.2.1,ht.chk.1⟩,z3⟩
 intro t htm
 unfold CSE at h
 split at h
 ·cases h
 split at h
 ·cases h
 split at h
 ·cases h
 split at h
 ·cases h
 ·rename_i o;exact Classical.not_not.1 o t htm
theorem ElsE_zero {l:Lat} {els:List El} (h:ElsE l els=0):CSE l.1 l.2=0∧∀ e∈els,IsW l.1 4 l.2 e∧¬ e.Great:=by
 unfold ElsE at h
 split at h
 ·rename_i h1;exact absurd h h1
 ·rename_i h1
  split at h
  ·rename_i h2
   refine ⟨Classical.not_not.1 h1,fun e he=>?_⟩
   obtain ⟨i,hi,rfl⟩:=List.getElem_of_mem he
   exact IsE_iff.1 (h2 i hi)
  ·cases h
theorem limited_ {d:Nat} {Z:Zone} {cs:List Value} {e:El} (h:ElR Z e cs) (f:e.Fit d) :
  Cz M (.func (.func 70) #[] #[]) [.agg ⟨cs⟩] Z [] (fun v' Z' A'=>(e.Great∧v'=.tuple ⟨[.agg ⟨[.int .u8 0,.int .i64 0,.slice none 0 0,.slice none 0 0]⟩,.int .i64 5]⟩∨¬ e.Great∧v'=.tuple ⟨[.agg ⟨cs⟩,.int .i64 0]⟩)∧Z=Z'∧A'=[]):=by
 have h0:=h
 obtain ⟨q1,q2,q3,q4,us,rfl,ek,es,eL⟩:=h.form
 refine Cz.fn (f:=Tryz.f70) Ev.cM rfl rfl rfl _ rfl ?_
 repeat first|refine go ?_|with_reducible intro _
 refine Wk.call rfl rfl (Spl.none _) (isGreat_ d h0 f) rfl rfl rfl ?_
 rintro v' Z' A' hz ⟨⟨b,rfl,hb⟩,rfl,rfl⟩
 repeat first|refine go ?_|with_reducible intro _
 refine Wk.cond rfl (fun hc=>?_) (fun hc=>?_)
 ·repeat first|refine go ?_|with_reducible intro _
  refine Wk.ret ⟨_,Rs.cell rfl rfl Ev.hM rfl rfl (Rs.tmp rfl Rs.nil),_,Sub.none _,.inl ⟨hb.1 hc,rfl⟩,rfl,rfl⟩
 ·repeat first|refine go ?_|with_reducible intro _
  refine Wk.ret ⟨_,Rs.cell rfl rfl Ev.hM rfl rfl (Rs.tmp rfl Rs.nil),_,Sub.none _,.inr ⟨(fun k=>by rw [hb.2 k] at hc;cases hc),rfl⟩,rfl,rfl⟩
open Classical in
noncomputable def joinR (l:Lat) (a b:El):Int×El:=if ElsE l [a,b]≠0 then (ElsE l [a,b],El.bot) else if (joinE l.1 4 l.2 a b).Great then (5,El.bot) else (0,joinE l.1 4 l.2 a b)
theorem ElsR_two {Z:Zone} {b:Nat} {a e:El} {ca ce:List Value} (ha:ElR Z a ca) (he:ElR Z e ce) (hb:Z b=some (.cells (ca++ce) true 0)):ElsR Z (.slice (some ⟨b,0,none⟩) 2 2) [a,e]:=by
 have hL:=ElRL.snoc he (ElRL.snoc ha (l:=[]) (us:=[]) (by simp [ElRL]))
 have hl:=hL.length
 refine ⟨_,.inr ⟨b,0,2,_,_,_,rfl,Nat.le_refl _,hb,?_,.inl rfl⟩,hL⟩
 unfold getCells
 simp only [List.nil_append,List.length_append,List.length_cons,List.length_nil] at hl
 rw [if_pos (by simp;omega)]
 rw [List.drop_zero,List.take_of_length_le (by simp;omega)]
 simp
theorem Fit2 {a b:El} {d:Nat} (fa:a.Fit d) (fb:b.Fit d):∀ i (h:i < [a,b].length),([a,b][i]).Fit d:=by
 intro i h
 rcases (by simp at h;omega:i=0∨i=1) with rfl|rfl
 ·exact fa
 ·exact fb
theorem elemJoin {Z:Zone} {cl ca cb:List Value} {l:Lat} {a b:El} {dd:Nat} (hl:LatR Z cl l) (ht:l.Th) (ha:ElR Z a ca) (hb:ElR Z b cb) (fa:a.Fit dd) (fb:b.Fit dd) :
  Cz M (.func (.func 28) #[] #[]) [.agg ⟨cl⟩,.agg ⟨ca⟩,.agg ⟨cb⟩] Z [] (fun v' Z' A'=>∃ cs,v'=.tuple ⟨[.agg ⟨cs⟩,.int .i64 (joinR l a b).1]⟩∧ElR Z' (joinR l a b).2 cs∧A'=[]):=by
 have hl0:=hl
 have ha0:=ha
 have hb0:=hb
 obtain ⟨l1,l2,l3,l4,rfl,hT,hS⟩:=hl.form
 obtain ⟨q1,q2,q3,q4,ua,rfl,ak,as_,aL⟩:=ha.form
 obtain ⟨r1,r2,r3,r4,ub,rfl,bk,bs_,bL⟩:=hb.form
 refine Cz.fn (f:=Tryz.f28) Ev.cM rfl rfl rfl _ rfl ?_
 repeat first|refine go ?_|with_reducible intro _
 refine Wk.bs (cs:=[.int .u8 a.kind,.int .i64 a.n,.slice q1 a.keys.length q2,.slice q3 a.kids.length q4,.int .u8 b.kind,.int .i64 b.n,.slice r1 b.keys.length r2,.slice r3 b.kids.length r4]) rfl rfl rfl rfl rfl rfl rfl fun b9=>?_
 first|refine Wk.freezer Rem.head fun Z1 e1 h9=>?_|refine Wk.freeze Rem.head fun Z1 e1 h9=>?_
 repeat first|refine go ?_|with_reducible intro _
 refine Wk.call rfl rfl (Spl.none _) (open_E (hl0.mono e1) ht (ElsR_two (ha0.mono e1) (hb0.mono e1) h9) (by simp) (Fit2 fa fb)) rfl rfl rfl ?_
 rintro v' Z' A' hz ⟨⟨cs,rfl,hcl,hL1⟩,rfl,rfl⟩
 obtain ⟨m1,m2,m3,m4,rfl,_,_⟩:=hL1.form
 repeat first|refine go ?_|with_reducible intro _
 refine Wk.cond rfl (fun hc=>?_) (fun hc=>?_)
 ·have hne:ElsE l [a,b]≠0:=by simpa using hc
  have hj:joinR l a b=(ElsE l [a,b],El.bot):=by unfold joinR;rw [if_pos hne]
  rw [hj]
  repeat first|refine go ?_|with_reducible intro _
  refine Wk.ret ⟨_,Rs.cell rfl rfl Ev.hM rfl rfl (Rs.tmp rfl Rs.nil),_,Sub.none _,_,rfl,ElR_bot _,rfl⟩
 ·have h0:ElsE l [a,b]=0:=by simpa using hc
  obtain ⟨hC,hw⟩:=ElsE_zero h0
  obtain ⟨T,sok⟩:=CSE_ok ht hC
  obtain ⟨wa,ga⟩:=hw a (by simp)
  obtain ⟨wb,gb⟩:=hw b (by simp)
  repeat first|refine go ?_|with_reducible intro _
  refine Wk.call rfl rfl (Spl.none _) (join_e T 4 rfl hL1 (hS.mono e1) (ha0.mono e1) (hb0.mono e1) wa wb ga gb sok) rfl rfl rfl ?_
  rintro v' Z2 A' hz2 ⟨cs,rfl,hR,rfl⟩
  repeat first|refine go ?_|with_reducible intro _
  refine Wk.call rfl rfl (Spl.none _) (limited_ hR (joinE_fit T wa wb ga gb)) rfl rfl rfl ?_
  rintro v' Z' A' hz3 ⟨hq,rfl,rfl⟩
  obtain ⟨w1,w2,w3,w4,uw,rfl,_,_,_⟩:=hR.form
  rcases hq with ⟨hg,rfl⟩|⟨hg,rfl⟩
  ·have hj:joinR l a b=(5,El.bot):=by unfold joinR;rw [if_neg (by simpa using h0),if_pos hg]
   rw [hj]
   repeat first|refine go ?_|with_reducible intro _
   refine Wk.ret ⟨_,Rs.cell rfl rfl Ev.hM rfl rfl (Rs.tmp rfl Rs.nil),_,Sub.none _,_,rfl,ElR_bot _,rfl⟩
  ·have hj:joinR l a b=(0,joinE l.1 4 l.2 a b):=by unfold joinR;rw [if_neg (by simpa using h0),if_neg hg]
   rw [hj]
   repeat first|refine go ?_|with_reducible intro _
   refine Wk.ret ⟨_,Rs.cell rfl rfl Ev.hM rfl rfl (Rs.tmp rfl Rs.nil),_,Sub.none _,_,rfl,hR,rfl⟩
end Go.Proofs.J
namespace Go.Proofs.J
open Go.Ev Go
theorem isBelow_e {ts:List Tbl} (T:TsOk ts) (d:Nat) {Z:Zone} {cl sc ca cb:List Value} {l:Lat} {s:Shp} {a b:El} (hts:l.1=ts) (hl:LatR Z cl l) (hs:ShR Z s sc) (ha:ElR Z a ca) (hb:ElR Z b cb) (wa:IsW ts d s a) (wb:IsW ts d s b) (ga:¬ a.Great) (gb:¬ b.Great) (so:s.Ok) :
  Cz M (.func (.func 73) #[] #[]) [.agg ⟨cl⟩,.agg ⟨sc⟩,.agg ⟨ca⟩,.agg ⟨cb⟩] Z [] (fun v' Z' A'=>Bis v' (LeE ts d s a b)∧Z=Z'∧A'=[]):=by
 refine Cz.shrink ?_
 have hl0:=hl
 have hs0:=hs
 have ha0:=ha
 have hb0:=hb
 obtain ⟨l1,l2,l3,l4,rfl,hT,_⟩:=hl.form
 obtain ⟨p1,p2,usk,rfl,hsk,hsL⟩:=hs.form
 obtain ⟨q1,q2,q3,q4,ua,rfl,ak,as_,aL⟩:=ha.form
 obtain ⟨r1,r2,r3,r4,ub,rfl,bk,bs_,bL⟩:=hb.form
 refine Cz.fn (f:=Tryz.f73) Ev.cM rfl rfl rfl _ rfl ?_
 repeat first|refine go ?_|with_reducible intro _
 refine Wk.drawr (ms:=[0,0,0,0,15,0,63,127,255]) (l:=[0,1,2,3,5,4,6,7,8]) Ev.cM Ev.cM Ev.cM rfl ?_
 repeat first|refine go ?_|with_reducible intro _
 refine Wk.callD rfl rfl (Spl.none _) (join_e T d hts hl0 hs0 ha0 hb0 wa wb ga gb so) rfl rfl fun v9 Z9 A' hz9 hq=>?_
 obtain ⟨cs,rfl,hR,rfl⟩:=hq
 refine ⟨?_,?_⟩
 ·exact Ev.pM2
 repeat first|refine go ?_|with_reducible intro _
 refine Wk.callD rfl rfl (Spl.none _) (compareE d d hR (hb0.mono hz9) (joinE_fit T wa wb ga gb) (wb.fit T.ok gb)) rfl rfl fun v9 Z9 A' hz9 hq=>?_
 obtain ⟨rfl,rfl,rfl⟩:=hq
 refine ⟨?_,?_⟩
 ·exact Ev.pM2
 repeat first|refine go ?_|with_reducible intro _
 refine Wk.ret ⟨_,Rs.tmp rfl Rs.nil,_,Sub.none _,Bis.of ?_,rfl⟩
 simp only [beq_iff_eq]
 exact cmpE_zero
theorem below1 {ts:List Tbl} (T:TsOk ts) {Z:Zone} {b3:Nat} {w0:Value} {cl ca cb:List Value} {l:Lat} {a b:El} {sc:List Value} (hts:l.1=ts) (h3:Z b3=some (.cells (w0::sc) true 0)) (hl:LatR Z cl l) (hs:ShR Z l.2 sc) (ha:ElR Z a ca) (hb:ElR Z b cb) (wa:IsW ts 4 l.2 a) (wb:IsW ts 4 l.2 b) (ga:¬ a.Great) (gb:¬ b.Great) (so:l.2.Ok) :
  Cz M (.func (.func 72) #[] ⟨[.pointer (some ⟨b3,0,none⟩)]⟩) [.agg ⟨cl⟩,.agg ⟨ca⟩,.agg ⟨cb⟩] Z [] (fun v' Z' A'=>Bis v' (LeE ts 4 l.2 a b)∧Z=Z'∧A'=[]):=by
 have hl0:=hl
 have hs0:=hs
 have ha0:=ha
 have hb0:=hb
 obtain ⟨l1,l2,l3,l4,rfl,hT,_⟩:=hl.form
 obtain ⟨p1,p2,usk,rfl,hsk,hsL⟩:=hs.form
 obtain ⟨q1,q2,q3,q4,ua,rfl,ak,as_,aL⟩:=ha.form
 obtain ⟨r1,r2,r3,r4,ub,rfl,bk,bs_,bL⟩:=hb.form
 refine Cz.fn (f:=Tryz.f72) Ev.cM rfl rfl rfl _ rfl ?_
 repeat first|refine go ?_|with_reducible intro _
 refine Wk.call rfl rfl (Spl.none _) (isBelow_e T 4 hts hl0 hs0 ha0 hb0 wa wb ga gb so) rfl rfl rfl ?_
 rintro v' Z' A' hz ⟨hb,rfl,rfl⟩
 repeat first|refine go ?_|with_reducible intro _
 refine Wk.ret ⟨_,Rs.tmp rfl Rs.nil,_,Sub.none _,hb,rfl,rfl⟩
theorem ask_ {Z:Zone} {cl ca cb:List Value} {fv:Value} {l:Lat} {a b:El} {dd:Nat} {p:Prop} (hl:LatR Z cl l) (ht:l.Th) (ha:ElR Z a ca) (hb:ElR Z b cb) (fa:a.Fit dd) (fb:b.Fit dd)
  (hp:ElsE l [a,b]=0→∀ {Z':Zone} {cs:List Value},Ext Z Z'→LatR Z' cs l→Cz M fv [.agg ⟨cs⟩,.agg ⟨ca⟩,.agg ⟨cb⟩] Z' [] (fun v' Z'' A'=>Bis v' p∧Z'=Z''∧A'=[])) :
  Cz M (.func (.func 59) #[] #[]) [.agg ⟨cl⟩,fv,.agg ⟨ca⟩,.agg ⟨cb⟩] Z [] (fun v' Z' A'=>(∃ r:Bool,v'=.tuple ⟨[.bool r,.int .i64 (ElsE l [a,b])]⟩∧(r=true↔ElsE l [a,b]=0∧p))∧Z=Z'∧A'=[]):=by
 refine Cz.shrink ?_
 have hl0:=hl
 have ha0:=ha
 have hb0:=hb
 obtain ⟨l1,l2,l3,l4,rfl,hT,hS⟩:=hl.form
 obtain ⟨q1,q2,q3,q4,ua,rfl,ak,as_,aL⟩:=ha.form
 obtain ⟨r1,r2,r3,r4,ub,rfl,bk,bs_,bL⟩:=hb.form
 refine Cz.fn (f:=Tryz.f59) Ev.cM rfl rfl rfl _ rfl ?_
 repeat first|refine go ?_|with_reducible intro _
 refine Wk.bs (cs:=[.int .u8 a.kind,.int .i64 a.n,.slice q1 a.keys.length q2,.slice q3 a.kids.length q4,.int .u8 b.kind,.int .i64 b.n,.slice r1 b.keys.length r2,.slice r3 b.kids.length r4]) rfl rfl rfl rfl rfl rfl rfl fun b9=>?_
 first|refine Wk.freezer Rem.head fun Z1 e1 h9=>?_|refine Wk.freeze Rem.head fun Z1 e1 h9=>?_
 repeat first|refine go ?_|with_reducible intro _
 refine Wk.call rfl rfl (Spl.none _) (open_E (hl0.mono e1) ht (ElsR_two (ha0.mono e1) (hb0.mono e1) h9) (by simp) (Fit2 fa fb)) rfl rfl rfl ?_
 rintro v' Z' A' hz ⟨⟨cs,rfl,hcl,hL1⟩,rfl,rfl⟩
 have hL0:=hL1
 obtain ⟨m1,m2,m3,m4,rfl,_,_⟩:=hL1.form
 repeat first|refine go ?_|with_reducible intro _
 refine Wk.caser 22 rfl (fun hc=>?_) (fun hc=>?_)
 ·have h0:ElsE l [a,b]=0:=by simpa using hc
  repeat first|refine go ?_|with_reducible intro _
  refine Wk.call rfl rfl (Spl.none _) (hp h0 e1 hL0) rfl rfl rfl ?_
  rintro v' Z' A' hz ⟨⟨r,rfl,hr⟩,rfl,rfl⟩
  repeat first|refine go ?_|with_reducible intro _
  refine Wk.ret ⟨_,Rs.tmp rfl (Rs.tmp rfl Rs.nil),_,Sub.none _,⟨r,rfl,by rw [hr];simp [h0]⟩,rfl⟩
 ·have h0:¬ ElsE l [a,b]=0:=by simpa using hc
  repeat first|refine go ?_|with_reducible intro _
  refine Wk.ret ⟨_,Rs.tmp rfl (Rs.tmp rfl Rs.nil),_,Sub.none _,⟨false,rfl,by simp [h0]⟩,rfl⟩
theorem elemBelow {Z:Zone} {cl ca cb:List Value} {l:Lat} {a b:El} {dd:Nat} (hl:LatR Z cl l) (ht:l.Th) (ha:ElR Z a ca) (hb:ElR Z b cb) (fa:a.Fit dd) (fb:b.Fit dd) :
  Cz M (.func (.func 29) #[] #[]) [.agg ⟨cl⟩,.agg ⟨ca⟩,.agg ⟨cb⟩] Z [] (fun v' Z' A'=>(∃ r:Bool,v'=.tuple ⟨[.bool r,.int .i64 (ElsE l [a,b])]⟩∧(r=true↔ElsE l [a,b]=0∧LeE l.1 4 l.2 a b))∧Z=Z'∧A'=[]):=by
 refine Cz.shrink ?_
 have hl0:=hl
 have ha0:=ha
 have hb0:=hb
 obtain ⟨l1,l2,l3,l4,rfl,hT,hS⟩:=hl.form
 obtain ⟨q1,q2,q3,q4,ua,rfl,ak,as_,aL⟩:=ha.form
 obtain ⟨r1,r2,r3,r4,ub,rfl,bk,bs_,bL⟩:=hb.form
 refine Cz.fn (f:=Tryz.f29) Ev.cM rfl rfl rfl _ rfl ?_
 repeat first|refine go ?_|with_reducible intro _
 rename_i b3 b4 b5
 apply Wk.freezer (b:=b3)
 case p=>repeat (first|exact Rem.head|apply Rem.tail)
 intro Z1 e1 h3
 repeat first|refine go ?_|with_reducible intro _
 refine Wk.call rfl rfl (Spl.none _) (ask_ (p:=LeE l.1 4 l.2 a b) (hl0.mono e1) ht (ha0.mono e1) (hb0.mono e1) fa fb (fun h0 {Z'} {cs} e hL=>by
  obtain ⟨hC,hw⟩:=ElsE_zero h0
  obtain ⟨T,sok⟩:=CSE_ok ht hC
  obtain ⟨wa,ga⟩:=hw a (by simp)
  obtain ⟨wb,gb⟩:=hw b (by simp)
  exact below1 T rfl (e _ _ h3) hL (hS.mono (e1.trans e)) (ha0.mono (e1.trans e)) (hb0.mono (e1.trans e)) wa wb ga gb sok)) rfl rfl rfl ?_
 rintro v' Z' A' hz ⟨⟨r,rfl,hr⟩,rfl,rfl⟩
 repeat first|refine go ?_|with_reducible intro _
 refine Wk.ret ⟨_,Rs.tmp rfl (Rs.tmp rfl Rs.nil),_,Sub.none _,⟨r,rfl,hr⟩,rfl⟩
end Go.Proofs.J
namespace Go.Proofs.J
open Go.Ev Go
theorem indexOwn {Z:Zone} {b n cp:Nat} {l:List Int} {fv:Value} (p:Int→Prop) (hn:l.length=n) (hs:n≤1000000)
  (hp:∀ x∈l,Cz M fv [.int .i64 x] Z [] (fun v' Z' A'=>Bis v' (p x)∧Z=Z'∧A'=[])) :
  Cz M (.func (.func 191) #[] #[]) [.slice (some ⟨b,0,none⟩) n cp,fv] Z [olp b 1 (.slice (some ⟨b,0,none⟩) n cp) n (nums l)] (fun v' Z' A'=>(∃ r:Int,v'=.int .i64 r∧((∃ (i:Nat) (h:i < l.length),r=i∧p l[i]∧∀ j (h:j < l.length),j < i→¬ p l[j])∨(r=-1∧∀ x∈l,¬ p x)))∧Z=Z'∧A'=[olp b 1 (.slice (some ⟨b,0,none⟩) n cp) n (nums l)]):=by
 refine Cz.fn (f:=Tryz.f191) Ev.cM rfl rfl rfl _ rfl ?_
 repeat first|refine go ?_|with_reducible intro _
 refine Wk.loop (fun mm L Z' A'=>∃ j:Nat,j≤n∧mm=n - j∧Z=Z'∧A'=[olp b 1 (.slice (some ⟨b,0,none⟩) n cp) n (nums l)]∧(∀ i (h:i < l.length),i < j→¬ p l[i])∧Kp L [(0,.slice (some ⟨b,0,none⟩) n cp),(1,fv),(6,.slice (some ⟨b,0,none⟩) n cp),(7,.int .i64 n),(8,.int .i64 j)]) n ⟨0,Nat.zero_le _,rfl,rfl,rfl,fun _ _ h=>by omega,Ev.kM⟩ ?_
 rintro mm L Z' A' - ⟨j,hj,rfl,rfl,rfl,hno,hk⟩
 refine Wk.kp hk ?_
 clear hk
 repeat first|refine go ?_|with_reducible intro _
 refine Wk.cond rfl (fun hc=>?_) (fun hc=>?_)
 ·have hlt:j < n:=by simp at hc;omega
  clear hc
  repeat first|refine go ?_|with_reducible intro _
  refine Wk.iaV j rfl rfl rfl rfl rfl rfl rfl hlt ?_
  refine Wk.loadOlp (cs:=[_]) rfl rfl Ev.rM (nums_get (i:=j) Ev.wM Ev.wM) rfl rfl rfl ?_
  repeat first|refine go ?_|with_reducible intro _
  refine Wk.call rfl rfl (Spl.none _) (hp l[j] (List.getElem_mem _)) rfl rfl rfl ?_
  rintro v' Z' A' hz ⟨⟨r,rfl,hr⟩,rfl,rfl⟩
  repeat first|refine go ?_|with_reducible intro _
  refine Wk.cond rfl (fun hc=>?_) (fun hc=>?_)
  ·repeat first|refine go ?_|with_reducible intro _
   refine Wk.ret ⟨_,Rs.tmp rfl Rs.nil,_,Sub.refl _,⟨_,rfl,.inl ⟨j,by omega,rfl,hr.1 hc,hno⟩⟩,rfl,rfl⟩
  ·have hnp:¬ p l[j]:=fun h=>by rw [hr.2 h] at hc;cases hc
   clear hc
   repeat first|refine go ?_|with_reducible intro _
   refine Wk.inv ⟨_,by omega,j+1,hlt,rfl,rfl,rfl,fun i h hi=>?_,Ev.kM⟩
   by_cases e:i=j
   ·subst e;exact hnp
   ·exact hno i h Ev.wM
 ·have hjn:j=n:=by simp at hc;omega
  repeat first|refine go ?_|with_reducible intro _
  refine Wk.ret ⟨_,Rs.tmp rfl Rs.nil,_,Sub.refl _,⟨_,rfl,.inr ⟨rfl,fun x hx=>?_⟩⟩,rfl,rfl⟩
  obtain ⟨i,hi,rfl⟩:=List.getElem_of_mem hx
  exact hno i hi Ev.wM
open Classical in
noncomputable def flt (p:Int→Prop) (l:List Int):List Int:=l.filter fun x=>decide (¬ p x)
theorem flt_all {p:Int→Prop} {l:List Int} (h:∀ x∈l,¬ p x):flt p l=l:=by
 unfold flt;rw [List.filter_eq_self];intro x hx;simp [h x hx]
theorem flt_snoc {p:Int→Prop} {l:List Int} {x:Int}:(¬ p x→flt p (l++[x])=flt p l++[x])∧(p x→flt p (l++[x])=flt p l):=by
 unfold flt
 constructor
 ·intro h;rw [List.filter_append];simp [h]
 ·intro h;rw [List.filter_append];simp [h]
theorem deleteOwn {Z:Zone} {b n cp:Nat} {l:List Int} {fv:Value} (p:Int→Prop) (hn:l.length=n) (hs:n≤1000000) (hcap:n≤cp)
  (hp:∀ x∈l,Cz M fv [.int .i64 x] Z [] (fun v' Z' A'=>Bis v' (p x)∧Z=Z'∧A'=[])) :
  Cz M (.func (.func 201) #[] #[]) [.slice (some ⟨b,0,none⟩) n cp,fv] Z [olp b 1 (.slice (some ⟨b,0,none⟩) n cp) n (nums l)] (fun v' Z' A'=>Z=Z'∧A'=[ol 1 v' (flt p l).length (nums (flt p l))]):=by
 refine Cz.fn (f:=Tryz.f201) Ev.cM rfl rfl rfl _ rfl ?_
 repeat first|refine go ?_|with_reducible intro _
 refine Wk.call rfl rfl (.l .nil) (indexOwn p hn hs hp) rfl rfl rfl ?_
 rintro v' Z' A' hz ⟨⟨r,rfl,hr⟩,rfl,rfl⟩
 rcases hr with ⟨i,hi,rfl,hpi,hfirst⟩|⟨rfl,hno⟩
 ·have h0:flt p (l.take (i+1))=l.take i:=by
   rw [List.take_succ_eq_append_getElem hi,flt_snoc.2 hpi]
   refine flt_all fun x hx=>?_
   obtain ⟨y,hy,rfl⟩:=List.getElem_of_mem hx
   rw [List.length_take] at hy
   rw [List.getElem_take]
   exact hfirst y Ev.wM Ev.wM
  repeat first|refine go ?_|with_reducible intro _
  refine Wk.loop (fun mm L Z' A'=>∃ (j k:Nat) (a:List Int),j≤n∧k < j∧mm=n - j∧Z=Z'∧A'=[olp b 1 (.slice (some ⟨b,0,none⟩) n cp) n (nums a)]∧a.length=n∧a.take k=flt p (l.take j)∧(∀ x,j≤x→a[x]?=l[x]?)∧Kp L [(0,.slice (some ⟨b,0,none⟩) n cp),(1,fv),(5,.int .i64 k),(6,.int .i64 j)]) (n - (i+1)) ⟨i+1,i,l,by omega,by omega,rfl,rfl,rfl,hn,h0.symm,fun _ _=>rfl,Ev.kM⟩ ?_
  rintro mm L Z' A' - ⟨j,k,a,hj,hkj,rfl,rfl,rfl,hal,hak,hax,hk⟩
  refine Wk.kp hk ?_
  clear hk
  repeat first|refine go ?_|with_reducible intro _
  refine Wk.cond rfl (fun hc=>?_) (fun hc=>?_)
  ·have hlt:j < n:=by simp at hc;omega
   clear hc
   have e1:a[j]?=l[j]?:=hax j (Nat.le_refl _)
   rw [List.getElem?_eq_getElem Ev.wM,List.getElem?_eq_getElem Ev.wM] at e1
   have e2:=Option.some.inj e1
   repeat first|refine go ?_|with_reducible intro _
   refine Wk.iaV j rfl rfl rfl rfl rfl rfl rfl hlt ?_
   refine Wk.loadOlp (cs:=[_]) rfl rfl Ev.rM (nums_get (i:=j) Ev.wM Ev.wM) rfl rfl rfl ?_
   rw [e2]
   repeat first|refine go ?_|with_reducible intro _
   refine Wk.call rfl rfl (Spl.none _) (hp l[j] (List.getElem_mem _)) rfl rfl rfl ?_
   rintro v' Z' A' hz ⟨⟨r,rfl,hr⟩,rfl,rfl⟩
   repeat first|refine go ?_|with_reducible intro _
   refine Wk.cond rfl (fun hc=>?_) (fun hc=>?_)
   ·have hnp:¬ p l[j]:=fun h=>by rw [hr.2 h] at hc;cases hc
    clear hc
    repeat first|refine go ?_|with_reducible intro _
    refine Wk.iaV k rfl rfl rfl rfl rfl rfl rfl Ev.wM ?_
    refine Wk.storeOlp rfl rfl rfl rfl rfl Ev.rM (nums_set (i:=k) Ev.wM Ev.wM) Ev.cM rfl ?_
    repeat first|refine go ?_|with_reducible intro _
    refine Wk.inv ⟨_,by omega,j+1,k+1,_,hlt,by omega,rfl,rfl,rfl,by simpa using hal,?_,fun x hx=>?_,Ev.kM⟩
    ·have q1:flt p (l.take (j+1))=flt p (l.take j)++[l[j]]:=by rw [List.take_succ_eq_append_getElem Ev.wM,flt_snoc.1 hnp]
     rw [q1,←hak,List.take_succ_eq_append_getElem (by simp;omega),List.take_set,List.set_eq_of_length_le (by simp;omega)]
     simp
    ·rw [List.getElem?_set_ne Ev.wM];exact hax x Ev.wM
   ·have hyp:p l[j]:=hr.1 (by simpa using hc)
    clear hc
    repeat first|refine go ?_|with_reducible intro _
    refine Wk.inv ⟨_,by omega,j+1,k,a,hlt,by omega,rfl,rfl,rfl,hal,?_,fun x hx=>hax x Ev.wM,Ev.kM⟩
    rw [List.take_succ_eq_append_getElem Ev.wM,flt_snoc.2 hyp,hak]
  ·have hjn:j=n:=by simp at hc;omega
   subst hjn
   clear hc
   have hlj:l.take j=l:=List.take_of_length_le Ev.wM
   rw [hlj] at hak
   have hil:(flt p l).length=k:=by rw [←hak,List.length_take];omega
   repeat first|refine go ?_|with_reducible intro _
   refine Wk.v (v:=.slice (some ⟨b,0+k*1,none⟩) (j - k) (cp - k)) rfl rfl rfl (Rd.sliceOlp (l:=k) (h:=j) (m:=cp) Ev.rM rfl rfl rfl rfl rfl rfl rfl rfl rfl (abounds_lo Ev.wM hcap)) ?_
   repeat first|refine go ?_|with_reducible intro _
   refine Wk.e0 rfl rfl (Ef.clearOlp rfl rfl rfl rfl rfl Ev.rM rfl (nums_clear (k:=k) Ev.wM Ev.wM) ⟨PnAll.nil,?_⟩)
   repeat first|refine go ?_|with_reducible intro _
   refine Wk.v (v:=.slice (some ⟨b,0+0*1,none⟩) (k - 0) (cp - 0)) rfl rfl rfl (Rd.sliceOlp (l:=0) (h:=k) (m:=cp) Ev.rM rfl rfl rfl rfl rfl rfl rfl rfl rfl (abounds_hi Ev.wM hcap)) ?_
   repeat first|refine go ?_|with_reducible intro _
   refine Wk.alter (C:=[ol 1 (.slice (some ⟨b,0,none⟩) k cp) k ((nums (a.take k++List.replicate (j - k) 0)).take (k*1))]) Ev.rM (fun s h=>Sat.one (olp.short Ev.wM h)) ?_
   refine Wk.ret ⟨_,Rs.tmp rfl Rs.nil,_,Sub.refl _,rfl,?_⟩
   have e3:(nums (a.take k++List.replicate (j - k) 0)).take (k*1)=nums (flt p l):=by
    rw [Nat.mul_one,←hak,nums_append,List.take_append_of_le_length (by simp;omega),List.take_of_length_le (by simp;omega)]
   rw [e3,hil]
   simp [outOf]
 ·have h0:=flt_all hno
  repeat first|refine go ?_|with_reducible intro _
  refine Wk.alter (C:=[ol 1 (.slice (some ⟨b,0,none⟩) n cp) n (nums l)]) Ev.rM (fun s h=>Sat.one (olp.ol h)) ?_
  refine Wk.ret ⟨_,Rs.tmp rfl Rs.nil,_,Sub.refl _,rfl,?_⟩
  rw [h0,hn]
  simp [outOf]
end Go.Proofs.J
namespace Go.Proofs.J
open Go.Ev Go
theorem containsI {Z:Zone} {v fv:Value} {us:List Value} {n:Nat} (p:Nat→Prop) (s:Sl Z 1 v n us) (hn:n≤1000000)
  (hp:∀ i u,i < n→us[i]?=some u→Cz M fv [u] Z [] (fun v' Z' A'=>Bis v' (p i)∧Z=Z'∧A'=[])) :
  Cz M (.func (.func 199) #[] #[]) [v,fv] Z [] (fun v' Z' A'=>Bis v' (∃ i,i < n∧p i)∧Z=Z'∧A'=[]):=by
 refine Cz.fn (f:=Tryz.f199) Ev.cM rfl rfl rfl _ rfl ?_
 repeat first|refine go ?_|with_reducible intro _
 refine Wk.call rfl rfl (Spl.none _) (indexFnI p s hn hp) rfl rfl rfl ?_
 rintro v' Z' A' hz ⟨⟨r,rfl,hr⟩,rfl,rfl⟩
 repeat first|refine go ?_|with_reducible intro _
 refine Wk.ret ⟨_,Rs.tmp rfl Rs.nil,_,Sub.none _,Bis.of ?_,rfl,rfl⟩
 rcases hr with ⟨i,rfl,hi,hpi⟩|⟨rfl,hno⟩
 ·simp;exact ⟨i,hi,hpi⟩
 ·simp;exact hno
theorem isPrime_ {Z:Zone} {bt:Nat} {t:Tbl} (h:TabR Z bt t) (hL:t.Lat) (p:Nat) :
  Cz M (.func (.func 165) #[] #[]) [.pointer (some ⟨bt,0,none⟩),.int .i64 p] Z [] (fun v' Z' A'=>Bis v' (t.Prime p)∧Z=Z'∧A'=[]):=by
 refine Cz.shrink ?_
 refine Cz.fn (f:=Tryz.f165) Ev.cM rfl rfl rfl _ rfl ?_
 repeat first|refine go ?_|with_reducible intro _
 refine Wk.rangePairs (nn:=t.elems.length) (fun a b=>t.jn a b=p→a=p∨b=p) (fun _ _ _=>rfl) rfl (pairs_ h) rfl (by simp) (fun a b Z1 l ha hb hz=>?_) (fun Z' hz hall=>?_)
 ·repeat first|refine go ?_|with_reducible intro _
  refine Wk.done ⟨rfl,rfl,rfl,?_⟩
  repeat first|refine go ?_|with_reducible intro _
  refine Wk.call rfl rfl (Spl.none _) (join_ (h.mono hz) a b ha hb) rfl rfl rfl ?_
  rintro v' Z' A' hz2 ⟨⟨x,f,rfl,hf1,hf2⟩,rfl,rfl⟩
  have:f=true:=by
   cases f
   ·exact absurd (hL.ex ha hb) (hf2 rfl)
   ·rfl
  subst this
  obtain ⟨c,rfl,hc⟩:=hf1 rfl
  obtain rfl:=hc.eq hL ha hb
  repeat first|refine go ?_|with_reducible intro _
  refine Wk.caser 23 rfl (fun h1=>?_) (fun h1=>?_)
  ·have h1:t.jn a b=p:=by simp at h1;omega
   repeat first|refine go ?_|with_reducible intro _
   refine Wk.caser 28 rfl (fun h2=>?_) (fun h2=>?_)
   ·have h2:¬ a=p:=by simp at h2;omega
    repeat first|refine go ?_|with_reducible intro _
    refine Wk.cond rfl (fun h3=>?_) (fun h3=>?_)
    ·have h3:¬ b=p:=by simp at h3;omega
     repeat first|refine go ?_|with_reducible intro _
     refine Wk.ret (.inr ⟨by simp,_,Rem.head,post_ret ?_⟩)
     refine ⟨_,Rs.cell rfl rfl Ev.hM rfl rfl Rs.nil,_,Sub.none _,Bis.of ?_,rfl⟩
     simp only [Bool.false_eq_true,false_iff]
     rintro ⟨_,hall⟩
     rcases hall a b ha hb h1 with q|q
     ·exact h2 q
     ·exact h3 q
    ·have h3:b=p:=by simp at h3;omega
     repeat first|refine go ?_|with_reducible intro _
     exact Wk.done (.inl ⟨rfl,rfl,fun _=>.inr h3⟩)
   ·have h2:a=p:=by simp at h2;omega
    repeat first|refine go ?_|with_reducible intro _
    exact Wk.done (.inl ⟨rfl,rfl,fun _=>.inl h2⟩)
  ·have h1:¬ t.jn a b=p:=by simp at h1;omega
   repeat first|refine go ?_|with_reducible intro _
   exact Wk.done (.inl ⟨rfl,rfl,fun q=>absurd q h1⟩)
 ·repeat first|refine go ?_|with_reducible intro _
  refine Wk.ret ⟨_,Rs.cell rfl rfl Ev.hM rfl rfl Rs.nil,_,Sub.none _,Bis.of ?_,rfl⟩
  simp only [bne_iff_ne,ne_eq]
  exact ⟨fun q=>⟨by omega,hall⟩,fun q=>by have:=q.1;omega⟩
theorem greatest11 {Z:Zone} {bt b1 b2:Nat} {t:Tbl} (h:TabR Z bt t) (a b:Nat) (ha:a < t.elems.length) (hb:b < t.elems.length) (h1:Z b1=some (.cells [.int .i64 a] true 0)) (h2:Z b2=some (.cells [.pointer (some ⟨bt,0,none⟩)] true 0)) :
  Cz M (.func (.func 200) #[] ⟨[.pointer (some ⟨b1,0,none⟩),.pointer (some ⟨b2,0,none⟩)]⟩) [.int .i64 b] Z [] (fun v' Z' A'=>Bis v' (a≠b∧t.Bl a b)∧Z=Z'∧A'=[]):=by
 refine Cz.fn (f:=Tryz.f200) Ev.cM rfl rfl rfl _ rfl ?_
 repeat first|refine go ?_|with_reducible intro _
 refine Wk.caser 8 rfl (fun hc=>?_) (fun hc=>?_)
 ·have hne:a≠b:=by simp at hc;omega
  repeat first|refine go ?_|with_reducible intro _
  refine Wk.call rfl rfl (Spl.none _) (isBelow h a b ha hb) rfl rfl rfl ?_
  rintro v' Z' A' hz ⟨⟨r,rfl,hr⟩,rfl,rfl⟩
  repeat first|refine go ?_|with_reducible intro _
  refine Wk.ret ⟨_,Rs.tmp rfl Rs.nil,_,Sub.none _,Bis.of (by rw [hr];simp [hne]),rfl,rfl⟩
 ·have hne:a=b:=by simp at hc;omega
  repeat first|refine go ?_|with_reducible intro _
  refine Wk.ret ⟨_,Rs.tmp rfl Rs.nil,_,Sub.none _,Bis.of (by simp [hne]),rfl,rfl⟩
theorem greatest1 {Z:Zone} {bt b1 b2:Nat} {t:Tbl} (h:TabR Z bt t) {vl:Value} {l:List Nat} (sl:Sl Z 1 vl l.length (nats l)) (hl:l.length≤1000000) (hin:∀ a∈l,a < t.elems.length) (a:Nat) (ha:a < t.elems.length) (h1:Z b1=some (.cells [vl] true 0)) (h2:Z b2=some (.cells [.pointer (some ⟨bt,0,none⟩)] true 0)) :
  Cz M (.func (.func 198) #[] ⟨[.pointer (some ⟨b1,0,none⟩),.pointer (some ⟨b2,0,none⟩)]⟩) [.int .i64 a] Z [] (fun v' Z' A'=>Bis v' (∃ b∈l,a≠b∧t.Bl a b)∧Z=Z'∧A'=[]):=by
 refine Cz.shrink ?_
 refine Cz.fn (f:=Tryz.f198) Ev.cM rfl rfl rfl _ rfl ?_
 repeat first|refine go ?_|with_reducible intro _
 first|refine Wk.freezer Rem.head fun Z1 e1 h3=>?_|refine Wk.freeze Rem.head fun Z1 e1 h3=>?_
 refine Wk.call rfl rfl (Spl.none _) (containsI (fun i=>∃ h:i < l.length,a≠l[i]∧t.Bl a l[i]) (sl.mono e1) hl (fun i u hi hu=>by
  rw [nats_get hi] at hu
  obtain rfl:=Option.some.inj hu
  exact (greatest11 (h.mono e1) a l[i] ha (hin _ (List.getElem_mem hi)) h3 (e1 _ _ h2)).mono fun v' Z' A' _ q=>⟨q.1.imp ⟨fun h=>⟨hi,h⟩,fun ⟨_,h⟩=>h⟩,q.2⟩)) rfl rfl rfl ?_
 rintro v' Z' A' hz ⟨hb,rfl,rfl⟩
 repeat first|refine go ?_|with_reducible intro _
 refine Wk.ret ⟨_,Rs.tmp rfl Rs.nil,_,Sub.none _,hb.imp ⟨fun ⟨i,hi,h,q⟩=>⟨_,List.getElem_mem h,q⟩,fun ⟨b,hb,q⟩=>?_⟩,rfl⟩
 obtain ⟨i,hi,rfl⟩:=List.getElem_of_mem hb
 exact ⟨i,hi,hi,q⟩
theorem asc_ext {l m:List Nat} (hl:l.Pairwise (· < ·)) (hm:m.Pairwise (· < ·)) (h:∀ x,x∈l↔x∈m):l=m:=by
 have e:l.map Int.ofNat=m.map Int.ofNat:=by
  refine Inc.ext ?_ ?_ fun x=>?_
  ·exact List.pairwise_map.2 (hl.imp fun h=>by simpa using h)
  ·exact List.pairwise_map.2 (hm.imp fun h=>by simpa using h)
  ·simp only [List.mem_map]
   exact ⟨fun ⟨y,hy,e⟩=>⟨y,(h y).1 hy,e⟩,fun ⟨y,hy,e⟩=>⟨y,(h y).2 hy,e⟩⟩
 have:=congrArg (List.map Int.toNat) e
 simpa [List.map_map,Function.comp_def] using this
theorem parts_asc (t:Tbl) (a:Nat):(t.parts a).Pairwise (· < ·):=by
 unfold Tbl.parts
 exact List.Pairwise.filter _ List.pairwise_lt_range
theorem indexNil {Z:Zone} {v fv:Value}:Cz M (.func (.func 191) #[] #[]) [v,fv] Z [ol 1 v 0 []] (fun v' Z' A'=>v'=.int .i64 (-1)∧Z=Z'∧A'=[ol 1 v 0 []]):=by
 refine Cz.fn (f:=Tryz.f191) Ev.cM rfl rfl rfl _ rfl ?_
 refine Wk.know Ev.rM (fun s h=>ol.form (v:=v) h) ?_
 rintro ⟨q,c,rfl⟩
 repeat first|refine go ?_|with_reducible intro _
 refine Wk.loop (fun mm L Z' A'=>mm=0∧Z=Z'∧A'=[ol 1 (.slice q 0 c) 0 []]∧Kp L [(7,.int .i64 0),(8,.int .i64 0)]) 0 ⟨rfl,rfl,rfl,Ev.kM⟩ ?_
 rintro mm L Z' A' - ⟨rfl,rfl,rfl,hk⟩
 refine Wk.kp hk ?_
 clear hk
 repeat first|refine go ?_|with_reducible intro _
 refine Wk.ret ⟨_,Rs.tmp rfl Rs.nil,_,Sub.refl _,rfl,rfl,rfl⟩
theorem deleteNil {Z:Zone} {v fv:Value}:Cz M (.func (.func 201) #[] #[]) [v,fv] Z [ol 1 v 0 []] (fun v' Z' A'=>Z=Z'∧A'=[ol 1 v' 0 []]):=by
 refine Cz.fn (f:=Tryz.f201) Ev.cM rfl rfl rfl _ rfl ?_
 repeat first|refine go ?_|with_reducible intro _
 refine Wk.call rfl rfl (.l .nil) indexNil rfl rfl rfl ?_
 rintro v' Z' A' hz ⟨rfl,rfl,rfl⟩
 repeat first|refine go ?_|with_reducible intro _
 refine Wk.ret ⟨_,Rs.tmp rfl Rs.nil,_,Sub.refl _,rfl,rfl⟩
theorem nats_nums (l:List Nat):nats l=nums (l.map Int.ofNat):=by simp [nats]
theorem cloneNats {Z:Zone} {v:Value} {l:List Nat} (sl:Sl Z 1 v l.length (nats l)) (hl:l.length≤1000000):Cz M (.func (.func 151) #[] #[]) [v] Z [] (fun v' Z' A'=>Z=Z'∧A'=[ol 1 v' l.length (nats l)]) :=
 cloneI2 sl Ev.wM (by rw [nats_nums];exact ok_nums _)
theorem greatest_ {Z:Zone} {bt:Nat} {t:Tbl} (h:TabR Z bt t) {vl:Value} {l:List Nat} (sl:Sl Z 1 vl l.length (nats l)) (hl:l.length≤1000000) (hin:∀ a∈l,a < t.elems.length) (r:List Nat) (hr:r.map Int.ofNat=flt (fun x=>∃ b∈l,x.toNat≠b∧t.Bl x.toNat b) (l.map Int.ofNat)) :
  Cz M (.func (.func 161) #[] #[]) [.pointer (some ⟨bt,0,none⟩),vl] Z [] (fun v' Z' A'=>A'=[ol 1 v' r.length (nats r)]):=by
 obtain ⟨qa,ca,rfl⟩:=sl.form
 refine Cz.fn (f:=Tryz.f161) Ev.cM rfl rfl rfl _ rfl ?_
 repeat first|refine go ?_|with_reducible intro _
 rename_i b2 b3
 apply Wk.freezer (b:=b2)
 case p=>repeat (first|exact Rem.head|apply Rem.tail)
 intro Z1 e1 h2
 apply Wk.freezer (b:=b3)
 case p=>repeat (first|exact Rem.head|apply Rem.tail)
 intro Z2 e2 h3
 replace h2:=e2 _ _ h2
 have e:=e1.trans e2
 repeat first|refine go ?_|with_reducible intro _
 refine Wk.call rfl rfl (Spl.none _) (cloneNats (sl.mono e) hl) rfl rfl rfl ?_
 rintro v8 Z3 A' hz ⟨rfl,rfl⟩
 by_cases h0:l=[]
 ·subst h0
  have:r=[]:=by simpa [flt] using hr
  subst this
  repeat first|refine go ?_|with_reducible intro _
  refine Wk.call rfl rfl (.l .nil) deleteNil rfl rfl rfl ?_
  rintro v' Z' A' hz ⟨rfl,rfl⟩
  repeat first|refine go ?_|with_reducible intro _
  refine Wk.ret ⟨_,Rs.tmp rfl Rs.nil,_,Sub.refl _,rfl⟩
 ·refine Wk.olOpenr Rem.head (List.length_pos_iff.2 h0) fun b6=>?_
  refine Wk.knowr Rem.head (fun s h=>olp.form h) ?_
  rintro ⟨cp,rfl,hcp⟩
  rw [nats_nums l]
  repeat first|refine go ?_|with_reducible intro _
  refine Wk.call rfl rfl (.l .nil) (deleteOwn (l:=l.map Int.ofNat) (fun x=>∃ b∈l,x.toNat≠b∧t.Bl x.toNat b) (by simp) hl hcp (fun x hx=>by
   obtain ⟨a,ha,rfl⟩:=List.mem_map.1 hx
   exact greatest1 (h.mono e) (sl.mono e) hl hin a (hin a ha) h3 h2)) rfl rfl rfl ?_
  rintro v' Z' A' hz ⟨rfl,rfl⟩
  rw [←hr]
  repeat first|refine go ?_|with_reducible intro _
  refine Wk.ret ⟨_,Rs.tmp rfl Rs.nil,_,Sub.refl _,?_⟩
  rw [List.length_map,←nats_nums]
  simp [outOf]
theorem parts1 {Z:Zone} {bt b6 b3:Nat} {t:Tbl} (h:TabR Z bt t) (hL:t.Lat) (a p:Nat) (ha:a < t.elems.length) (hp:p < t.elems.length) (h6:Z b6=some (.cells [.pointer (some ⟨bt,0,none⟩)] true 0)) (h3:Z b3=some (.cells [.int .i64 a] true 0)) :
  Cz M (.func (.func 163) #[] ⟨[.pointer (some ⟨b6,0,none⟩),.pointer (some ⟨b3,0,none⟩)]⟩) [.int .i64 p] Z [] (fun v' Z' A'=>Bis v' (t.Bl p a∧t.Prime p)∧Z=Z'∧A'=[]):=by
 refine Cz.fn (f:=Tryz.f163) Ev.cM rfl rfl rfl _ rfl ?_
 repeat first|refine go ?_|with_reducible intro _
 refine Wk.call rfl rfl (Spl.none _) (isBelow h p a hp ha) rfl rfl rfl ?_
 rintro v' Z' A' hz ⟨⟨r,rfl,hr⟩,rfl,rfl⟩
 repeat first|refine go ?_|with_reducible intro _
 refine Wk.caser 9 rfl (fun hc=>?_) (fun hc=>?_)
 ·repeat first|refine go ?_|with_reducible intro _
  refine Wk.call rfl rfl (Spl.none _) (isPrime_ h hL p) rfl rfl rfl ?_
  rintro v' Z' A' hz ⟨⟨r2,rfl,hr2⟩,rfl,rfl⟩
  repeat first|refine go ?_|with_reducible intro _
  refine Wk.ret ⟨_,Rs.tmp rfl Rs.nil,_,Sub.none _,Bis.of (by rw [hr2];simp [hr.1 hc]),rfl,rfl⟩
 ·have hnb:¬ t.Bl p a:=fun q=>by rw [hr.2 q] at hc;cases hc
  repeat first|refine go ?_|with_reducible intro _
  refine Wk.ret ⟨_,Rs.tmp rfl Rs.nil,_,Sub.none _,Bis.of (by simp [hnb]),rfl,rfl⟩
theorem parts_eq {t:Tbl} {a:Nat} {l:List Nat} (hl:Whe t.elems.length (fun p=>t.Bl p a∧t.Prime p) l):(t.parts a).map Int.ofNat=flt (fun x=>∃ b∈l,x.toNat≠b∧t.Bl x.toNat b) (l.map Int.ofNat):=by
 classical
 have e:t.parts a=l.filter fun x=>decide (¬ ∃ b∈l,x≠b∧t.Bl x b):=by
  refine asc_ext (parts_asc t a) (List.Pairwise.filter _ hl.asc) fun x=>?_
  rw [Tbl.mem_parts,List.mem_filter,hl.mem]
  simp only [decide_eq_true_eq,Tbl.Part]
  constructor
  ·rintro ⟨h1,h2,h3,h4⟩
   refine ⟨⟨h1,h2,h3⟩,?_⟩
   rintro ⟨b,hb,hne,hbl⟩
   obtain ⟨k1,k2,k3⟩:=(hl.mem b).1 hb
   exact hne (h4 b k1 k3 k2 hbl)
  ·rintro ⟨⟨h1,h2,h3⟩,h4⟩
   refine ⟨h1,h2,h3,fun q hq hqp hqa hxq=>Classical.byContradiction fun hne=>h4 ⟨q,(hl.mem q).2 ⟨hq,hqa,hqp⟩,hne,hxq⟩⟩
 rw [e,flt,List.filter_map]
 congr 1
 exact List.filter_congr fun x _=>decide_eq_decide.2 Iff.rfl
theorem oParts {Z:Zone} {nm:ByteArray} {ve va vw:Value} {t:Tbl} (h:TbR Z nm ve va vw t) (ht:t.Sm) (ok:t.Ok) (hL:t.Lat) (hok:okCells [.string nm,ve,va,vw]=true) (a:Nat) (ha:a < t.elems.length) :
  Cz M (.func (.func 114) #[] #[]) [.agg ⟨[.string nm,ve,va,vw]⟩,.int .i64 a] Z [] (fun v' Z' A'=>∃ vs,v'=.tuple ⟨[vs,.int .i64 0]⟩∧A'=[ol 1 vs (t.parts a).length (nats (t.parts a))]):=by
 have hn12:t.elems.length≤12:=ok.2.2.1
 refine Cz.fn (f:=Tryz.f114) Ev.cM rfl rfl rfl _ rfl ?_
 repeat first|refine go ?_|with_reducible intro _
 rename_i b2 b3
 refine Wk.bs (cs:=[.int .i64 a]) rfl rfl rfl rfl rfl rfl rfl fun b9=>?_
 first|refine Wk.freezer Rem.head fun Z1 e1 h9=>?_|refine Wk.freeze Rem.head fun Z1 e1 h9=>?_
 have sl:Sl Z1 1 (.slice (some ⟨b9,0,none⟩) 1 1) 1 (nats [a]):=.inr ⟨b9,0,1,_,_,_,rfl,Nat.le_refl _,h9,rfl,.inl rfl⟩
 repeat first|refine go ?_|with_reducible intro _
 refine Wk.call rfl rfl (Spl.none _) (lattice_ok (h.mono e1) ht ok hL (l:=[a]) sl (by simp) (by simp [ha])) rfl rfl rfl ?_
 rintro v' Z2 A' hz1 ⟨⟨bt,rfl,hT⟩,rfl⟩
 repeat first|refine go ?_|with_reducible intro _
 rename_i b6
 refine Wk.drawr (ms:=[0,0,0,6,15,31,63]) (l:=[0,1,2,3,4,5,6]) Ev.cM Ev.cM Ev.cM rfl ?_
 apply Wk.freezer (b:=b3)
 case p=>repeat (first|exact Rem.head|apply Rem.tail)
 intro Z3 e3 h3
 apply Wk.freezer (b:=b6)
 case p=>repeat (first|exact Rem.head|apply Rem.tail)
 intro Z4 e4 h6
 replace h3:=e4 _ _ h3
 have hT4:=hT.mono (e3.trans e4)
 repeat first|refine go ?_|with_reducible intro _
 refine Wk.callD rfl rfl (Spl.none _) (where_ (fun p=>t.Bl p a∧t.Prime p) hT4 (fun p hp=>parts1 hT4 hL a p ha hp h6 h3)) rfl rfl fun v21 Z9 A' hz9 hq=>?_
 obtain ⟨rfl,l,hl,rfl⟩:=hq
 refine ⟨?_,?_⟩
 ·exact Ev.pM2
 first|apply Wk.olFreezer (v:=v21)|apply Wk.olFreeze (v:=v21)
 case p=>repeat (first|exact Rem.head|apply Rem.tail)
 intro Z5 e5 s5
 have hin:∀ x∈l,x < t.elems.length:=fun x hx=>((hl.mem x).1 hx).1
 obtain ⟨q5,c5,rfl⟩:=s5.form
 repeat first|refine go ?_|with_reducible intro _
 refine Wk.call rfl rfl (Spl.none _) (greatest_ (hT4.mono e5) s5 (by have:=hl.len;omega) hin (t.parts a) (parts_eq hl)) Ev.cM rfl rfl ?_
 rintro v22 Z6 A' hz6 rfl
 repeat first|refine go ?_|with_reducible intro _
 refine Wk.ret ⟨_,Rs.tmp rfl (Rs.tmp rfl Rs.nil),_,.keep (Sub.none _),v22,rfl,rfl⟩
end Go.Proofs.J
namespace Go.Proofs.J
open Go.Ev Go
end Go.Proofs.J
namespace Go.Proofs.J
open Go.Ev Go
end Go.Proofs.J
namespace Go.Proofs.J
open Go.Ev Go
end Go.Proofs.J
namespace Go.Proofs.J
open Go.Ev Go
def YieldsE (Z:Zone) (fv:Value) (l:List El):Prop :=
 ∀ (yv:Value) (Z1:Zone) (A0:List SA) (J:List El→Zone→List SA→Prop),Ext Z Z1→cellsL yv=[yv]→(∀ done Z' Z'' A',Ext Z' Z''→J done Z' A'→J done Z'' A')→J [] Z1 A0 →
  (∀ done x rest Z' A' cs,l=done++x::rest→Ext Z1 Z'→J done Z' A'→ElR Z' x cs→Cz M yv [.agg ⟨cs⟩] Z' A' (fun v Z'' A''=>v=.bool true∧J (done++[x]) Z'' A'')) →
  Cz M fv [yv] Z1 A0 (fun v Z' A'=>J l Z' A')
theorem Rem_last {x:SA}:∀ {A:List SA},Rem (A++[x]) x A
 | []=>.head
 | y::A=>.tail Rem_last
section
variable {fn:FuncId} {rd:Option Nat} {n:Nat} {Q:PQ} {k:List KI} {L:Lo} {Z:Zone} {A:List SA}
theorem rangeY {f:Operand} {params:Array Tmp} {assign body:Code} {fv:Value} {l:List El} (J:List El→Zone→List SA→Prop) (hrd:∀ H φ,St H Z A φ→isLoop H rd=true) (hf:evL L f=some fv) (hY:YieldsE Z fv l) (hps:params.size=1) (hb:∀ t∈params.toList,t < n) (hm:∀ done Z' Z'' A',Ext Z' Z''→J done Z' A'→J done Z'' A') (h0:J [] Z A)
  (hstep:∀ done x rest Z1 A1 cs q,l=done++x::rest→Ext Z Z1→J done Z1 A1→ElR Z1 x cs →
   Wk M fn (some q) n (fun e L1 Z1' A1'=>e=.normal∧∃ B1,Rem A1' (lp q .ready none fn n L params assign body) B1 ∧
    Wk M fn (some q) n (fun e L2 Z2 A2=>e=.normal∧∃ B2,Rem A2 (lp q .busy none fn n L params assign body) B2∧J (done++[x]) Z2 B2) [.c body] L1 Z1' (lp q .busy none fn n L params assign body::B1))
    [.c assign] (fillP params.toList [.agg ⟨cs⟩] L) Z1 (lp q .ready none fn n L params assign body::A1))
  (hdone:∀ Z' A',Ext Z Z'→J l Z' A'→Wk M fn rd n Q k L Z' A'):Wk M fn rd n Q (.c (.rangeFunc f params assign body)::k) L Z A:=by
 refine Wk.range hrd hf fun q=>?_
 refine (hY _ Z _ (fun done Z' A'=>∃ A1,A'=lp q .ready none fn n L params assign body::A1∧J done Z' A1) (Ext.refl _) rfl (fun done Z' Z'' A' hz ⟨A1,e,h⟩=>⟨A1,e,hm done Z' Z'' A1 hz h⟩) ⟨_,rfl,h0⟩ ?_).mono ?_
 ·rintro done x rest Z' A' cs hl hz ⟨A1,rfl,hJ⟩ hR
  refine Cz.yield (pend:=none) Rem.head (by simp [hps]) hb ?_
  refine Wc.mono (hstep done x rest Z' A1 cs q hl hz hJ hR) ?_
  rintro e L1 Z1' A1' hz1 ⟨rfl,B1,hB1,hbody⟩
  refine ⟨rfl,none,B1,hB1,?_⟩
  refine Wc.mono hbody ?_
  rintro e L2 Z2 A2 hz2 ⟨rfl,B2,hB2,hJ2⟩
  exact ⟨.busy,none,B2,hB2,rfl,B2,rfl,hJ2⟩
 ·rintro v Z' A' hz ⟨A1,rfl,hJ⟩
  exact ⟨.ready,none,A1,Rem.head,by simp,hdone Z' A1 hz hJ⟩
end
def wrK (e:El) (j:Nat) (p:El):El:=if e.kind=7 then .mk 7 0 [] (if j=0 then [p,El.bot] else [El.bot,p]) else .mk 6 0 [e.keys.getD j 0] [p]
noncomputable def kidP (ts:List Tbl) (d:Nat) (s:Shp) (e:El) (j:Nat):List El:=(piecesE ts d (s.kid (j % s.kids.length)) (e.kd j)).map (wrK e j)
theorem flatMap_range {α:Type} (F:Nat→List α) {n j:Nat} (h:j < n):∃ after,(List.range n).flatMap F=(List.range j).flatMap F++(F j++after):=by
 refine ⟨((List.range n).drop (j+1)).flatMap F,?_⟩
 have e:List.range n=List.range (j+1)++(List.range n).drop (j+1):=by
  have:=List.take_append_drop (j+1) (List.range n)
  rw [List.take_range,Nat.min_eq_left Ev.wM] at this
  exact this.symm
 conv=>lhs;rw [e]
 rw [List.flatMap_append,List.range_succ,List.flatMap_append]
 simp
theorem flatMap_congr_mem {α β:Type} {l:List α} {f g:α→List β} (h:∀ a∈l,f a=g a):l.flatMap f=l.flatMap g:=by
 induction l with
 | nil=>rfl
 | cons x l ih=>rw [List.flatMap_cons,List.flatMap_cons,h x (by simp),ih fun a ha=>h a (by simp [ha])]
theorem pieces_kids {ts:List Tbl} {d:Nat} {s:Shp} {e:El} (so:s.Ok) (w:IsW ts (d+1) s e) (hk:e.kind≠1∧e.kind≠2∧e.kind≠3∧e.kind≠4∧e.kind≠5) :
  piecesE ts (d+1) s e=(List.range e.kids.length).flatMap (kidP ts d s e):=by
 by_cases nb:e=El.bot
 ·subst nb;rw [pieces_0];rfl
 rcases w.kinds nb with k|k|k|k|k|k|k
 ·rw [w.inv1 nb k] at hk;exact absurd rfl hk.1
 ·obtain ⟨m,hm,rfl⟩:=w.inv2 nb k;exact absurd rfl hk.2.1
 ·rcases w.inv4 nb k with ⟨m,hm,rfl⟩|rfl
  ·exact absurd rfl hk.2.1
  ·exact absurd rfl hk.2.2.1
 ·obtain ⟨t,m,ht,h1,h2,rfl⟩:=w.inv5 nb k;exact absurd rfl hk.2.2.2.1
 ·obtain ⟨ks,hk2,rfl⟩:=w.inv3 nb k;exact absurd rfl hk.2.2.2.2
 ·obtain ⟨k0,ks,l,e0,hks,hl,hx,rfl⟩:=w.inv6 nb k
  have hkl:s.kids.length=1:=by
   have:=so.kids_.1
   rw [k] at this
   simpa [kidsOf] using this.symm
  rw [pieces_6]
  have hkeys:ks=(List.range l.length).map fun j=>ks.getD j 0:=by
   apply List.ext_getElem
   ·simp [hl]
   ·intro i h1 h2;simp [h1]
  show (ks.flatMap _)=(List.range l.length).flatMap _
  have e2:∀ (G:Int→List El),ks.flatMap G=(List.range l.length).flatMap fun j=>G (ks.getD j 0):=by
   intro G
   conv=>lhs;rw [hkeys]
   rw [List.flatMap_map]
  rw [e2]
  refine flatMap_congr_mem fun j hj=>?_
  have hj:j < l.length:=List.mem_range.1 hj
  have hjk:j < ks.length:=by omega
  have hat:atK ks l (ks.getD j 0)=l[j]:=atK_at hks.inc.nodup (by simp [hjk]) hj
  rw [kidP,hkl,Nat.mod_one,hat]
  have:(El.mk 6 0 ks l).kd j=l[j]:=by simp [El.kd,El.kids,hj]
  rw [this]
  rfl
 ·obtain ⟨k0,k1,x,y,e0,e1,hx,hy,hn,rfl⟩:=w.inv7 nb k
  have hkl:s.kids.length=2:=by
   have:=so.kids_.1
   rw [k] at this
   simpa [kidsOf] using this.symm
  rw [pieces_7]
  show _=(List.range 2).flatMap _
  rw [show List.range 2=[0,1] from rfl]
  simp only [List.flatMap_cons,List.flatMap_nil,List.append_nil,kidP,hkl]
  rfl
end Go.Proofs.J
