/- OA -/
import Derived.Test.YtlmmgebealakkaaGreatDoorTab
import Derived.Test.YtlmmgebealakkaaGreatDoorPL
import Derived.Test.YtlmmgebealakkaaGreatDoorEvF
set_option linter.unusedVariables false
set_option maxHeartbeats 4000000
set_option linter.unusedSimpArgs false
namespace Go.Proofs.J
open Go.Ev Go
theorem nextP {p:Nat→Prop} {j:Nat} (h:∀ i,i < j→p i) (k:p j):∀ i,i < j+1→p i:=fun i hi=>by
 by_cases e:i=j
 ·subst e;exact k
 ·exact h i Ev.wM
theorem isName {Z:Zone} (s:ByteArray) (hs:s.size≤1000000):Cz M (.func (.func 171) #[] #[]) [.string s] Z [] (fun v' Z' A'=>Bis v' (IsName s)∧Z=Z'∧A'=[]):=by
 refine Cz.fn (f:=Tryz.f171) Ev.cM rfl rfl rfl _ rfl ?_
 refine Ev.gT ?_
 refine Wk.loop (fun mm L Z' A'=>∃ j:Nat,j≤s.size∧mm=s.size - j∧Z=Z'∧Sub A' []∧(∀ i (h:i < s.size),i < j→lowc s[i]∨(digc s[i]∧i≠0))∧Kp L [(0,.string s),(7,.int .i64 s.size),(8,.int .i64 j)]) (s.size) ⟨0,Nat.zero_le _,rfl,rfl,Ev.sM,fun i _ h=>by omega,Ev.kM⟩ ?_
 rintro mm L Z' A' - ⟨j,hjj,rfl,rfl,hsub,invj,hk⟩
 refine Wk.drop hsub ?_
 refine Wk.kp hk ?_
 clear hk hsub
 refine Ev.gT ?_
 refine Wk.cond rfl (fun hc=>?_) (fun hc=>?_)
 ·have hlt:j < s.size:=by simp at hc;omega
  have e1:s[j]?=some s[j]:=getElem?_pos s j hlt
  have nx:lowc s[j]∨(digc s[j]∧j≠0)→∀ i (h:i < s.size),i < j+1→lowc s[i]∨(digc s[i]∧i≠0):=fun hh i h hi=>by
   by_cases e:i=j
   ·subst e;exact hh
   ·exact invj i h Ev.wM
  have no:¬ (lowc s[j]∨(digc s[j]∧j≠0))→¬ IsName s:=fun hn hN=>hn (hN.2.2 j hlt)
  generalize s[j]=w at e1 nx no
  refine Ev.gT ?_
  first|refine Wk.cut (fun L Z' A'=>Z=Z'∧Sub A' []∧Kp L [(3,.int .i64 j),(4,.bool (decide (lowc w))),(5,.bool (decide (digc w))),(0,.string s),(7,.int .i64 s.size),(8,.int .i64 j)]) ?_ ?_|refine Wk.cutr (fun L Z' A'=>Z=Z'∧Sub A' []∧Kp L [(3,.int .i64 j),(4,.bool (decide (lowc w))),(5,.bool (decide (digc w))),(0,.string s),(7,.int .i64 s.size),(8,.int .i64 j)]) ?_ ?_
  ·refine Wk.drawr (ms:=[0,0,3,7,15,31,31,127,255,511,0,0,3072,7168,15391,31775,31775,130079,261151,523295,32767,2097151]) (l:=[0,1,2,3,4,5,6,7,8,9,10,11,12,13,14,15,16,17,18,19,20,21]) Ev.cM Ev.cM Ev.cM rfl ?_
   refine Ev.gT ?_
   refine Wk.caser 15 rfl (fun hl=>?_) (fun hl=>?_)
   ·refine Ev.gT ?_
    refine Wk.caser 25 rfl (fun hd=>?_) (fun hd=>?_)
    ·refine Ev.gT ?_
     refine Wk.inv ⟨rfl,Ev.sM,⟨rfl,eqBp (by simp [lowc] at hl ⊢;omega),eqBp (by simp [digc] at hd ⊢;omega),rfl,rfl,rfl,trivial⟩⟩
    ·refine Ev.gT ?_
     refine Wk.inv ⟨rfl,Ev.sM,⟨rfl,eqBp (by simp [lowc] at hl ⊢;omega),eqBp (by simp [digc] at hd ⊢;omega),rfl,rfl,rfl,trivial⟩⟩
   ·refine Ev.gT ?_
    refine Wk.caser 25 rfl (fun hd=>?_) (fun hd=>?_)
    ·refine Ev.gT ?_
     refine Wk.inv ⟨rfl,Ev.sM,⟨rfl,eqBp (by simp [lowc] at hl ⊢;omega),eqBp (by simp [digc] at hd ⊢;omega),rfl,rfl,rfl,trivial⟩⟩
    ·refine Ev.gT ?_
     refine Wk.inv ⟨rfl,Ev.sM,⟨rfl,eqBp (by simp [lowc] at hl ⊢;omega),eqBp (by simp [digc] at hd ⊢;omega),rfl,rfl,rfl,trivial⟩⟩
  ·rintro L Z' A' - ⟨rfl,hsub,hk⟩
   refine Wk.drop hsub ?_
   refine Wk.kp hk ?_
   clear hk hsub
   refine Ev.gT ?_
   refine Wk.caser 33 rfl (fun h1=>?_) (fun h1=>?_)
   ·refine Ev.gT ?_
    refine Wk.caser 36 rfl (fun h2=>?_) (fun h2=>?_)
    ·refine Ev.gT ?_
     refine Wk.ret ⟨_,Rs.tmp rfl Rs.nil,_,Sub.none _,Bis.of (by simp at h1 h2 ⊢;exact no (by simp [h1,h2])),rfl,rfl⟩
    ·refine Ev.gT ?_
     refine Wk.cond rfl (fun hc=>?_) (fun hc=>?_)
     ·refine Ev.gT ?_
      refine Wk.ret ⟨_,Rs.tmp rfl Rs.nil,_,Sub.none _,Bis.of (by simp at h1 h2 hc ⊢;exact no (by simp [h1,hc])),rfl,rfl⟩
     ·refine Ev.gT ?_
      refine Wk.inv ⟨_,by omega,j+1,by omega,rfl,rfl,Ev.sM,(nx (by simp at h2 hc;exact .inr ⟨h2,hc⟩)),Ev.kM⟩
   ·refine Ev.gT ?_
    refine Wk.inv ⟨_,by omega,j+1,by omega,rfl,rfl,Ev.sM,(nx (by simp at h1;exact .inl h1)),Ev.kM⟩
 ·have hall:∀ i (h:i < s.size),lowc s[i]∨(digc s[i]∧i≠0):=fun i h=>invj i h (by simp at hc;omega)
  refine Ev.gT ?_
  refine Wk.caser 45 rfl (fun h1=>?_) (fun h1=>?_)
  ·refine Ev.gT ?_
   refine Wk.ret ⟨_,Rs.tmp rfl Rs.nil,_,Sub.none _,Bis.of (by simp [IsName] at h1 ⊢;exact ⟨fun h=>⟨by omega,by omega,hall⟩,fun h=>by omega⟩),rfl,rfl⟩
  ·refine Ev.gT ?_
   refine Wk.ret ⟨_,Rs.tmp rfl Rs.nil,_,Sub.none _,Bis.of (by simp only [decide_eq_false_iff_not] at h1;simp only [Bool.false_eq_true,false_iff];intro h;have:=h.1;omega),rfl,rfl⟩
def wordE:List (ByteArray×Value):=wordL.zip [.int .u8 1,.int .u8 2,.int .u8 3,.int .u8 4,.int .u8 6,.int .u8 7]
theorem words {Z:Zone}:Cz M (.func (.func 208) #[] #[]) [] Z [] (fun v' Z' A'=>Z=Z'∧∃ b,v'=.map (some b)∧A'=[pt b (.map (wordE.map fun p=>(.string p.1,p.2)))]):=by
 refine Cz.fn (f:=Tryz.f208) Ev.cM rfl rfl rfl _ rfl ?_
 refine Ev.gT ?_
 refine Wk.mkm rfl rfl rfl fun b=>?_
 repeat (refine Wk.insert rfl rfl rfl rfl Ev.cM Ev.cM Upd.head rfl rfl ?_)
 refine Ev.gT ?_
 refine Wk.ret ⟨_,Rs.tmp rfl Rs.nil,_,Sub.refl _,rfl,b,rfl,rfl⟩
theorem isTable {Z:Zone} (s:ByteArray) (hs:s.size≤1000000):Cz M (.func (.func 176) #[] #[]) [.string s] Z [] (fun v' Z' A'=>Bis v' (IsTableName s)∧Z=Z'∧A'=[]):=by
 obtain ⟨w,hw⟩:∃ w,foundOr ⟨.int .u8,1,1,[.int .u8 0],true⟩ (findS s wordE 0)=some (w,(findS s wordE 0).isSome):=by
  cases findS s wordE 0 with
  | none=>exact ⟨_,rfl⟩
  | some p=>exact ⟨_,rfl⟩
 have hin:(findS s wordE 0).isSome=true↔s∈wordL:=by
  rw [Option.isSome_iff_exists]
  exact findS_some
 generalize (findS s wordE 0).isSome=isw at hw hin
 refine Cz.fn (f:=Tryz.f176) Ev.cM rfl rfl rfl _ rfl ?_
 refine Ev.gT ?_
 refine Wk.call rfl rfl (Spl.none _) (words) rfl rfl rfl ?_
 rintro v' Z' A' hz ⟨rfl,b,rfl,rfl⟩
 refine Ev.gT ?_
 refine Wk.lookup rfl rfl rfl rfl (.inr (List.Mem.head _)) rfl (keyFind_str rfl s wordE 0) hw rfl rfl rfl ?_
 refine Ev.gT ?_
 refine Wk.call rfl rfl (Spl.none _) (isName s hs) rfl rfl rfl ?_
 rintro v' Z' A' hz ⟨⟨b2,rfl,hb⟩,rfl,rfl⟩
 refine Ev.gT ?_
 refine Wk.caser 13 rfl (fun h1=>?_) (fun h1=>?_)
 ·refine Ev.gT ?_
  refine Wk.ret ⟨_,Rs.tmp rfl Rs.nil,_,Sub.none _,Bis.of (by rw [h1] at hb;simp [IsTableName,hb.1 rfl,←hin]),rfl,rfl⟩
 ·refine Ev.gT ?_
  refine Wk.ret ⟨_,Rs.tmp rfl Rs.nil,_,Sub.none _,Bis.of (by simp [IsTableName,←hb,h1]),rfl,rfl⟩
theorem allInt {Z:Zone} {v fv:Value} {us:List Value} {n:Nat} (p:Nat→Prop) (s:Sl Z 1 v n us) (hn:n≤1000000)
  (hp:∀ i u,i < n→us[i]?=some u→Cz M fv [.int .i64 i,u] Z [] (fun v' Z' A'=>Bis v' (p i)∧Z=Z'∧A'=[])) :
  Cz M (.func (.func 175) #[] #[]) [v,fv] Z [] (fun v' Z' A'=>Bis v' (∀ i,i < n→p i)∧Z=Z'∧A'=[]):=by
 have hul:=s.length
 refine Cz.fn (f:=Tryz.f175) Ev.cM rfl rfl rfl _ rfl ?_
 refine Ev.gT ?_
 refine Wk.loop (fun mm L Z' A'=>∃ j:Nat,j≤n∧mm=n - j∧Z=Z'∧Sub A' []∧(∀ i,i < j→p i)∧Kp L [(0,v),(1,fv),(7,v),(8,.int .i64 n),(9,.int .i64 j)]) (n) ⟨0,Nat.zero_le _,rfl,rfl,Ev.sM,fun i h=>by omega,Ev.kM⟩ ?_
 rintro mm L Z' A' - ⟨j,hjj,rfl,rfl,hsub,invj,hk⟩
 refine Wk.drop hsub ?_
 refine Wk.kp hk ?_
 clear hk hsub
 refine Ev.gT ?_
 refine Wk.cond rfl (fun hc=>?_) (fun hc=>?_)
 ·have hlt:j < n:=by simp at hc;omega
  have e1:us[j]?=some us[j]:=List.getElem?_eq_getElem Ev.wM
  have e2:getCells us (j*1) 1=some [us[j]]:=getCells_one (by rw [Nat.mul_one];exact e1)
  repeat first|refine go ?_|with_reducible intro _
  refine Wk.call rfl rfl (Spl.none _) (hp j _ hlt e1) rfl rfl rfl ?_
  rintro v' Z' A' hz ⟨⟨b,rfl,hb⟩,rfl,rfl⟩
  refine Ev.gT ?_
  refine Wk.cond rfl (fun hc=>?_) (fun hc=>?_)
  ·refine Ev.gT ?_
   refine Wk.ret ⟨_,Rs.tmp rfl Rs.nil,_,Sub.none _,Bis.of (by simp at hc ⊢;exact ⟨j,hlt,fun h=>by rw [hb.2 h] at hc;cases hc⟩),rfl,rfl⟩
  ·refine Ev.gT ?_
   refine Wk.inv ⟨_,by omega,j+1,by omega,rfl,rfl,Ev.sM,(nextP invj (hb.1 (by simpa using hc))),Ev.kM⟩
 ·refine Ev.gT ?_
  refine Wk.ret ⟨_,Rs.tmp rfl Rs.nil,_,Sub.none _,Bis.of (by simp;exact fun i h=>invj i (by simp at hc;omega)),rfl,rfl⟩
theorem allInts {Z:Zone} {v fv:Value} {us:List Value} {n:Nat} (p:Nat→Prop) (s:Sl Z 1 v n us) (hn:n≤1000000)
  (hp:∀ i u,i < n→us[i]?=some u→Cz M fv [.int .i64 i,u] Z [] (fun v' Z' A'=>Bis v' (p i)∧Z=Z'∧A'=[])) :
  Cz M (.func (.func 178) #[] #[]) [v,fv] Z [] (fun v' Z' A'=>Bis v' (∀ i,i < n→p i)∧Z=Z'∧A'=[]):=by
 have hul:=s.length
 refine Cz.fn (f:=Tryz.f178) Ev.cM rfl rfl rfl _ rfl ?_
 refine Ev.gT ?_
 refine Wk.loop (fun mm L Z' A'=>∃ j:Nat,j≤n∧mm=n - j∧Z=Z'∧Sub A' []∧(∀ i,i < j→p i)∧Kp L [(0,v),(1,fv),(7,v),(8,.int .i64 n),(9,.int .i64 j)]) (n) ⟨0,Nat.zero_le _,rfl,rfl,Ev.sM,fun i h=>by omega,Ev.kM⟩ ?_
 rintro mm L Z' A' - ⟨j,hjj,rfl,rfl,hsub,invj,hk⟩
 refine Wk.drop hsub ?_
 refine Wk.kp hk ?_
 clear hk hsub
 refine Ev.gT ?_
 refine Wk.cond rfl (fun hc=>?_) (fun hc=>?_)
 ·have hlt:j < n:=by simp at hc;omega
  have e1:us[j]?=some us[j]:=List.getElem?_eq_getElem Ev.wM
  have e2:getCells us (j*1) 1=some [us[j]]:=getCells_one (by rw [Nat.mul_one];exact e1)
  repeat first|refine go ?_|with_reducible intro _
  refine Wk.call rfl rfl (Spl.none _) (hp j _ hlt e1) rfl rfl rfl ?_
  rintro v' Z' A' hz ⟨⟨b,rfl,hb⟩,rfl,rfl⟩
  refine Ev.gT ?_
  refine Wk.cond rfl (fun hc=>?_) (fun hc=>?_)
  ·refine Ev.gT ?_
   refine Wk.ret ⟨_,Rs.tmp rfl Rs.nil,_,Sub.none _,Bis.of (by simp at hc ⊢;exact ⟨j,hlt,fun h=>by rw [hb.2 h] at hc;cases hc⟩),rfl,rfl⟩
  ·refine Ev.gT ?_
   refine Wk.inv ⟨_,by omega,j+1,by omega,rfl,rfl,Ev.sM,(nextP invj (hb.1 (by simpa using hc))),Ev.kM⟩
 ·refine Ev.gT ?_
  refine Wk.ret ⟨_,Rs.tmp rfl Rs.nil,_,Sub.none _,Bis.of (by simp;exact fun i h=>invj i (by simp at hc;omega)),rfl,rfl⟩
theorem allStr {Z:Zone} {v fv:Value} {us:List Value} {n:Nat} (p:Nat→Prop) (s:Sl Z 1 v n us) (hn:n≤1000000)
  (hp:∀ i u,i < n→us[i]?=some u→Cz M fv [.int .i64 i,u] Z [] (fun v' Z' A'=>Bis v' (p i)∧Z=Z'∧A'=[])) :
  Cz M (.func (.func 177) #[] #[]) [v,fv] Z [] (fun v' Z' A'=>Bis v' (∀ i,i < n→p i)∧Z=Z'∧A'=[]):=by
 have hul:=s.length
 refine Cz.fn (f:=Tryz.f177) Ev.cM rfl rfl rfl _ rfl ?_
 refine Ev.gT ?_
 refine Wk.loop (fun mm L Z' A'=>∃ j:Nat,j≤n∧mm=n - j∧Z=Z'∧Sub A' []∧(∀ i,i < j→p i)∧Kp L [(0,v),(1,fv),(7,v),(8,.int .i64 n),(9,.int .i64 j)]) (n) ⟨0,Nat.zero_le _,rfl,rfl,Ev.sM,fun i h=>by omega,Ev.kM⟩ ?_
 rintro mm L Z' A' - ⟨j,hjj,rfl,rfl,hsub,invj,hk⟩
 refine Wk.drop hsub ?_
 refine Wk.kp hk ?_
 clear hk hsub
 refine Ev.gT ?_
 refine Wk.cond rfl (fun hc=>?_) (fun hc=>?_)
 ·have hlt:j < n:=by simp at hc;omega
  have e1:us[j]?=some us[j]:=List.getElem?_eq_getElem Ev.wM
  have e2:getCells us (j*1) 1=some [us[j]]:=getCells_one (by rw [Nat.mul_one];exact e1)
  repeat first|refine go ?_|with_reducible intro _
  refine Wk.call rfl rfl (Spl.none _) (hp j _ hlt e1) rfl rfl rfl ?_
  rintro v' Z' A' hz ⟨⟨b,rfl,hb⟩,rfl,rfl⟩
  refine Ev.gT ?_
  refine Wk.cond rfl (fun hc=>?_) (fun hc=>?_)
  ·refine Ev.gT ?_
   refine Wk.ret ⟨_,Rs.tmp rfl Rs.nil,_,Sub.none _,Bis.of (by simp at hc ⊢;exact ⟨j,hlt,fun h=>by rw [hb.2 h] at hc;cases hc⟩),rfl,rfl⟩
  ·refine Ev.gT ?_
   refine Wk.inv ⟨_,by omega,j+1,by omega,rfl,rfl,Ev.sM,(nextP invj (hb.1 (by simpa using hc))),Ev.kM⟩
 ·refine Ev.gT ?_
  refine Wk.ret ⟨_,Rs.tmp rfl Rs.nil,_,Sub.none _,Bis.of (by simp;exact fun i h=>invj i (by simp at hc;omega)),rfl,rfl⟩
def Rws (us:List Value) (n k:Nat) (cs:Nat→List Value):Prop:=∀ i,i < n→getCells us (i*k) k=some (cs i)∧okCells (cs i)=true
theorem list3 {l:List Value} (h:l.length=3):∃ a b c,l=[a,b,c]:=by
 match l,h with
 | [a,b,c],_=>exact ⟨a,b,c,rfl⟩
theorem list4 {l:List Value} (h:l.length=4):∃ a b c d,l=[a,b,c,d]:=by
 match l,h with
 | [a,b,c,d],_=>exact ⟨a,b,c,d,rfl⟩
theorem allShp {Z:Zone} {v fv:Value} {us:List Value} {n:Nat} {cs:Nat→List Value} (p:Nat→Prop) (s:Sl Z 3 v n us) (hr:Rws us n 3 cs) (hn:n≤1000000)
  (hp:∀ i,i < n→Cz M fv [.int .i64 i,.agg ⟨cs i⟩] Z [] (fun v' Z' A'=>Bis v' (p i)∧Z=Z'∧A'=[])) :
  Cz M (.func (.func 182) #[] #[]) [v,fv] Z [] (fun v' Z' A'=>Bis v' (∀ i,i < n→p i)∧Z=Z'∧A'=[]):=by
 refine Cz.fn (f:=Tryz.f182) Ev.cM rfl rfl rfl _ rfl ?_
 refine Ev.gT ?_
 refine Wk.loop (fun mm L Z' A'=>∃ j:Nat,j≤n∧mm=n - j∧Z=Z'∧Sub A' []∧(∀ i,i < j→p i)∧Kp L [(0,v),(1,fv),(7,v),(8,.int .i64 n),(9,.int .i64 j)]) (n) ⟨0,Nat.zero_le _,rfl,rfl,Ev.sM,fun i h=>by omega,Ev.kM⟩ ?_
 rintro mm L Z' A' - ⟨j,hjj,rfl,rfl,hsub,invj,hk⟩
 refine Wk.drop hsub ?_
 refine Wk.kp hk ?_
 clear hk hsub
 refine Ev.gT ?_
 refine Wk.cond rfl (fun hc=>?_) (fun hc=>?_)
 ·have hlt:j < n:=by simp at hc;omega
  obtain ⟨e2,hok⟩:=hr j hlt
  have hcl:=hp j hlt
  obtain ⟨a1,a2,a3,ecs⟩:=list3 (getC_some e2).2.2
  rw [ecs] at e2 hok hcl
  repeat first|refine go ?_|with_reducible intro _
  refine Wk.store rfl rfl rfl rfl hok Upd.head rfl rfl rfl ?_
  refine Ev.gT ?_
  refine Wk.call rfl rfl (Spl.none _) (hcl) rfl rfl rfl ?_
  rintro v' Z' A' hz ⟨⟨b,rfl,hb⟩,rfl,rfl⟩
  refine Ev.gT ?_
  refine Wk.cond rfl (fun hc=>?_) (fun hc=>?_)
  ·refine Ev.gT ?_
   refine Wk.ret ⟨_,Rs.tmp rfl Rs.nil,_,Sub.none _,Bis.of (by simp at hc ⊢;exact ⟨j,hlt,fun h=>by rw [hb.2 h] at hc;cases hc⟩),rfl,rfl⟩
  ·refine Ev.gT ?_
   refine Wk.inv ⟨_,by omega,j+1,by omega,rfl,rfl,Ev.sM,(nextP invj (hb.1 (by simpa using hc))),Ev.kM⟩
 ·refine Ev.gT ?_
  refine Wk.ret ⟨_,Rs.tmp rfl Rs.nil,_,Sub.none _,Bis.of (by simp;exact fun i h=>invj i (by simp at hc;omega)),rfl,rfl⟩
theorem allTbl {Z:Zone} {v fv:Value} {us:List Value} {n:Nat} {cs:Nat→List Value} (p:Nat→Prop) (s:Sl Z 4 v n us) (hr:Rws us n 4 cs) (hn:n≤1000000)
  (hp:∀ i,i < n→Cz M fv [.int .i64 i,.agg ⟨cs i⟩] Z [] (fun v' Z' A'=>Bis v' (p i)∧Z=Z'∧A'=[])) :
  Cz M (.func (.func 134) #[] #[]) [v,fv] Z [] (fun v' Z' A'=>Bis v' (∀ i,i < n→p i)∧Z=Z'∧A'=[]):=by
 refine Cz.fn (f:=Tryz.f134) Ev.cM rfl rfl rfl _ rfl ?_
 refine Ev.gT ?_
 refine Wk.loop (fun mm L Z' A'=>∃ j:Nat,j≤n∧mm=n - j∧Z=Z'∧Sub A' []∧(∀ i,i < j→p i)∧Kp L [(0,v),(1,fv),(7,v),(8,.int .i64 n),(9,.int .i64 j)]) (n) ⟨0,Nat.zero_le _,rfl,rfl,Ev.sM,fun i h=>by omega,Ev.kM⟩ ?_
 rintro mm L Z' A' - ⟨j,hjj,rfl,rfl,hsub,invj,hk⟩
 refine Wk.drop hsub ?_
 refine Wk.kp hk ?_
 clear hk hsub
 refine Ev.gT ?_
 refine Wk.cond rfl (fun hc=>?_) (fun hc=>?_)
 ·have hlt:j < n:=by simp at hc;omega
  obtain ⟨e2,hok⟩:=hr j hlt
  have hcl:=hp j hlt
  obtain ⟨a1,a2,a3,a4,ecs⟩:=list4 (getC_some e2).2.2
  rw [ecs] at e2 hok hcl
  repeat first|refine go ?_|with_reducible intro _
  refine Wk.store rfl rfl rfl rfl hok Upd.head rfl rfl rfl ?_
  refine Ev.gT ?_
  refine Wk.call rfl rfl (Spl.none _) (hcl) rfl rfl rfl ?_
  rintro v' Z' A' hz ⟨⟨b,rfl,hb⟩,rfl,rfl⟩
  refine Ev.gT ?_
  refine Wk.cond rfl (fun hc=>?_) (fun hc=>?_)
  ·refine Ev.gT ?_
   refine Wk.ret ⟨_,Rs.tmp rfl Rs.nil,_,Sub.none _,Bis.of (by simp at hc ⊢;exact ⟨j,hlt,fun h=>by rw [hb.2 h] at hc;cases hc⟩),rfl,rfl⟩
  ·refine Ev.gT ?_
   refine Wk.inv ⟨_,by omega,j+1,by omega,rfl,rfl,Ev.sM,(nextP invj (hb.1 (by simpa using hc))),Ev.kM⟩
 ·refine Ev.gT ?_
  refine Wk.ret ⟨_,Rs.tmp rfl Rs.nil,_,Sub.none _,Bis.of (by simp;exact fun i h=>invj i (by simp at hc;omega)),rfl,rfl⟩
end Go.Proofs.J
namespace Go.Proofs.J
open Go.Ev Go
theorem indexStr {Z:Zone} {v:Value} {ss:List ByteArray} (x:ByteArray) (s:Sl Z 1 v ss.length (ss.map Value.string)) (hn:ss.length≤1000000) :
  Cz M (.func (.func 207) #[] #[]) [v,.string x] Z [] (fun v' Z' A'=>(∃ r:Int,v'=.int .i64 r∧(0≤r↔∃ i,∃ h:i < ss.length,ss[i]=x))∧Z=Z'∧A'=[]):=by
 refine Cz.fn (f:=Tryz.f207) Ev.cM rfl rfl rfl _ rfl ?_
 refine Ev.gT ?_
 refine Wk.loop (fun mm L Z' A'=>∃ j:Nat,j≤ss.length∧mm=ss.length - j∧Z=Z'∧Sub A' []∧(∀ i,i < j→∀ h:i < ss.length,ss[i]≠x)∧Kp L [(0,v),(1,.string x),(6,v),(7,.int .i64 ss.length),(8,.int .i64 j)]) (ss.length) ⟨0,Nat.zero_le _,rfl,rfl,Ev.sM,fun i h=>by omega,Ev.kM⟩ ?_
 rintro mm L Z' A' - ⟨j,hjj,rfl,rfl,hsub,invj,hk⟩
 refine Wk.drop hsub ?_
 refine Wk.kp hk ?_
 clear hk hsub
 refine Ev.gT ?_
 refine Wk.cond rfl (fun hc=>?_) (fun hc=>?_)
 ·have hlt:j < ss.length:=by simp at hc;omega
  repeat first|refine go ?_|with_reducible intro _
  refine Wk.cond rfl (fun hc=>?_) (fun hc=>?_)
  ·refine Ev.gT ?_
   refine Wk.ret ⟨_,Rs.tmp rfl Rs.nil,_,Sub.none _,⟨_,rfl,by simp;exact ⟨j,hlt,(strEq.1 hc).symm⟩⟩,rfl,rfl⟩
  ·refine Ev.gT ?_
   refine Wk.inv ⟨_,by omega,j+1,by omega,rfl,rfl,Ev.sM,(nextP invj (fun h e=>by rw [strEq.2 e.symm] at hc;cases hc)),Ev.kM⟩
 ·refine Ev.gT ?_
  refine Wk.ret ⟨_,Rs.tmp rfl Rs.nil,_,Sub.none _,⟨_,rfl,by simp;exact fun i h=>invj i (by simp at hc;omega) h⟩,rfl,rfl⟩
theorem containsStr {Z:Zone} {v:Value} {ss:List ByteArray} (x:ByteArray) (s:Sl Z 1 v ss.length (ss.map Value.string)) (hn:ss.length≤1000000) :
  Cz M (.func (.func 172) #[] #[]) [v,.string x] Z [] (fun v' Z' A'=>Bis v' (∃ i,∃ h:i < ss.length,ss[i]=x)∧Z=Z'∧A'=[]):=by
 refine Cz.fn (f:=Tryz.f172) Ev.cM rfl rfl rfl _ rfl ?_
 refine Ev.gT ?_
 refine Wk.call rfl rfl (Spl.none _) (indexStr x s hn) rfl rfl rfl ?_
 rintro v' Z' A' hz ⟨⟨r,rfl,hr⟩,rfl,rfl⟩
 refine Ev.gT ?_
 refine Wk.ret ⟨_,Rs.tmp rfl Rs.nil,_,Sub.none _,Bis.of (by rw [←hr];simp),rfl,rfl⟩
theorem chk1 {Z:Zone} {b3:Nat} {n:Int} (i a:Int) (h3:Z b3=some (.cells [.int .i64 n] true 0)) :
  Cz M (.func (.func 169) #[] ⟨[.pointer (some ⟨b3,0,none⟩)]⟩) [.int .i64 i,.int .i64 a] Z [] (fun v' Z' A'=>Bis v' (0≤a∧a < n)∧Z=Z'∧A'=[]):=by
 refine Cz.fn (f:=Tryz.f169) Ev.cM rfl rfl rfl _ rfl ?_
 refine Ev.gT ?_
 refine Wk.caser 8 rfl (fun h1=>?_) (fun h1=>?_)
 ·refine Ev.gT ?_
  refine Wk.ret ⟨_,Rs.tmp rfl Rs.nil,_,Sub.none _,Bis.of (by simp at h1 ⊢;omega),rfl,rfl⟩
 ·refine Ev.gT ?_
  refine Wk.ret ⟨_,Rs.tmp rfl Rs.nil,_,Sub.none _,Bis.of (by simp at h1 ⊢;omega),rfl,rfl⟩
theorem chk2 {Z:Zone} {b1:Nat} {nm:ByteArray} {ve va vw:Value} {ss:List ByteArray} (i:Nat) (x:ByteArray) (hx:x.size≤1000000) (hi:i < ss.length) (hn:ss.length≤1000000) (h1:Z b1=some (.cells [.string nm,ve,va,vw] true 0)) (s:Sl Z 1 ve ss.length (ss.map Value.string)) :
  Cz M (.func (.func 170) #[] ⟨[.pointer (some ⟨b1,0,none⟩)]⟩) [.int .i64 i,.string x] Z [] (fun v' Z' A'=>Bis v' (IsName x∧∀ j (h:j < i),ss[j]≠x)∧Z=Z'∧A'=[]):=by
 refine Cz.fn (f:=Tryz.f170) Ev.cM rfl rfl rfl _ rfl ?_
 refine Ev.gT ?_
 refine Wk.call rfl rfl (Spl.none _) (isName x hx) rfl rfl rfl ?_
 rintro v' Z' A' hz ⟨⟨b,rfl,hb⟩,rfl,rfl⟩
 refine Ev.gT ?_
 refine Wk.caser 8 rfl (fun hc=>?_) (fun hc=>?_)
 ·refine Ev.gT ?_
  refine Wk.sliceSl (l:=0) (h:=i) s rfl rfl rfl rfl rfl rfl rfl rfl rfl rfl rfl ⟨rfl,by simp,by omega,by omega,trivial⟩ fun v9 s9=>?_
  refine Ev.gT ?_
  have s9':Sl Z 1 v9 (ss.take i).length ((ss.take i).map Value.string):=by
   have e:(ss.take i).length=i - 0:=by rw [List.length_take];omega
   rw [e,List.map_take];simpa using s9
  refine Wk.call rfl rfl (Spl.none _) (containsStr x s9' (by rw [List.length_take];omega)) rfl rfl rfl ?_
  rintro v' Z' A' hz ⟨⟨b2,rfl,hb2⟩,rfl,rfl⟩
  refine Ev.gT ?_
  have key:(!b2)=true↔IsName x∧∀ j (h:j < i),ss[j]≠x:=by
   rw [hc] at hb
   constructor
   ·intro h
    refine ⟨hb.1 rfl,fun j hj e=>?_⟩
    have:b2=true:=hb2.2 ⟨j,by simp;omega,by simpa using e⟩
    rw [this] at h;cases h
   ·rintro ⟨_,h⟩
    cases b2 with
    | false=>rfl
    | true =>
     obtain ⟨k,hk,e⟩:=hb2.1 rfl
     simp at hk e
     exact absurd e (h k Ev.wM)
  refine Wk.ret ⟨_,Rs.tmp rfl Rs.nil,_,Sub.none _,Bis.of key,rfl,rfl⟩
 ·refine Ev.gT ?_
  refine Wk.ret ⟨_,Rs.tmp rfl Rs.nil,_,Sub.none _,Bis.of (by simp [←hb,hc]),rfl,rfl⟩
theorem chk31 {Z:Zone} {b4:Nat} {vl:Value} {l:List Int} (i:Nat) (a:Int) (hi:i < l.length) (hn:l.length≤1000000) (h4:Z b4=some (.cells [vl] true 0)) (s:Sl Z 1 vl l.length (l.map (Value.int .i64))) :
  Cz M (.func (.func 174) #[] ⟨[.pointer (some ⟨b4,0,none⟩)]⟩) [.int .i64 i,.int .i64 a] Z [] (fun v' Z' A'=>Bis v' (i=0∨∃ h:0 < i,l[i - 1] < a)∧Z=Z'∧A'=[]):=by
 refine Cz.fn (f:=Tryz.f174) Ev.cM rfl rfl rfl _ rfl ?_
 refine Ev.gT ?_
 refine Wk.caser 8 rfl (fun h1=>?_) (fun h1=>?_)
 ·refine Ev.gT ?_
  refine Wk.ret ⟨_,Rs.tmp rfl Rs.nil,_,Sub.none _,Bis.of (by simp at h1 ⊢;exact .inl h1),rfl,rfl⟩
 ·have hp:0 < i:=by simp at h1;omega
  refine Ev.gT ?_
  refine Wk.iaSl (i - 1) s rfl rfl rfl rfl rfl rfl Ev.wM Ev.wM (getCells_map Ev.wM) fun b off hp=>?_
  refine Ev.gT ?_
  refine Wk.ret ⟨_,Rs.tmp rfl Rs.nil,_,Sub.none _,Bis.of (by simp;exact ⟨fun h=>.inr ⟨by omega,h⟩,fun h=>h.elim (fun h=>by omega) (fun h=>h.2)⟩),rfl,rfl⟩
theorem chk3 {Z:Zone} {b4 b3:Nat} {vl:Value} {l:List Int} {n:Int} (i:Int) (hn:l.length≤1000000) (h4:Z b4=some (.cells [.func (.func 169) #[] ⟨[.pointer (some ⟨b3,0,none⟩)]⟩] true 0)) (h3:Z b3=some (.cells [.int .i64 n] true 0)) (s:Sl Z 1 vl l.length (l.map (Value.int .i64))) :
  Cz M (.func (.func 173) #[] ⟨[.pointer (some ⟨b4,0,none⟩)]⟩) [.int .i64 i,vl] Z [] (fun v' Z' A'=>Bis v' ((∀ i (h:i < l.length),0≤l[i]∧l[i] < n)∧∀ i (h:i+1 < l.length),l[i] < l[i+1])∧Z=Z'∧A'=[]):=by
 refine Cz.shrink ?_
 obtain ⟨al,cl,rfl⟩:=s.form
 refine Cz.fn (f:=Tryz.f173) Ev.cM rfl rfl rfl _ rfl ?_
 repeat first|refine go ?_|with_reducible intro _
 refine Ev.gT ?_
 first|refine Wk.freezer Rem.head fun Z1 e1 hb=>?_|refine Wk.freeze Rem.head fun Z1 e1 hb=>?_
 have s1:=s.mono e1
 refine Ev.gT ?_
 refine Wk.call rfl rfl (Spl.none _) (allInt (fun i=>∃ h:i < l.length,0≤l[i]∧l[i] < n) s1 hn (fun i u hi hu=>by
  have:u=.int .i64 l[i]:=by simpa [hi] using hu.symm
  subst this
  exact (chk1 (Z:=Z1) i l[i] (e1 _ _ h3)).mono fun v' Z' A' _ q=>⟨q.1.imp ⟨fun h=>⟨hi,h⟩,fun ⟨_,h⟩=>h⟩,q.2⟩)) rfl rfl rfl ?_
 rintro v' Z' A' hz ⟨⟨b,rfl,hb1⟩,rfl,rfl⟩
 refine Ev.gT ?_
 refine Wk.caser 11 rfl (fun hc=>?_) (fun hc=>?_)
 ·refine Ev.gT ?_
  refine Wk.call rfl rfl (Spl.none _) (allInt (fun i=>∃ h:i < l.length,i=0∨∃ h:0 < i,l[i - 1] < l[i]) s1 hn (fun i u hi hu=>by
   have:u=.int .i64 l[i]:=by simpa [hi] using hu.symm
   subst this
   exact (chk31 (Z:=Z1) i l[i] hi hn hb s1).mono fun v' Z' A' _ q=>⟨q.1.imp ⟨fun h=>⟨hi,h⟩,fun ⟨_,h⟩=>h⟩,q.2⟩)) rfl rfl rfl ?_
  rintro v' Z' A' hz ⟨⟨b2,rfl,hb2⟩,rfl,rfl⟩
  refine Ev.gT ?_
  have key:b2=true↔((∀ i (h:i < l.length),0≤l[i]∧l[i] < n)∧∀ i (h:i+1 < l.length),l[i] < l[i+1]):=by
   rw [hb2]
   rw [hc] at hb1
   constructor
   ·intro h
    refine ⟨fun i hi=>(hb1.1 rfl i hi).2,fun i hi=>?_⟩
    obtain ⟨_,h|⟨_,h⟩⟩:=h (i+1) hi
    ·omega
    ·exact h
   ·rintro ⟨_,h⟩ i hi
    refine ⟨hi,?_⟩
    cases i with
    | zero=>exact .inl rfl
    | succ i=>exact .inr ⟨by omega,h i hi⟩
  refine Wk.ret ⟨_,Rs.tmp rfl Rs.nil,_,Sub.none _,Bis.of key,rfl⟩
 ·refine Ev.gT ?_
  have key:¬ ((∀ i (h:i < l.length),0≤l[i]∧l[i] < n)∧∀ i (h:i+1 < l.length),l[i] < l[i+1]):=fun h=>by
   rw [hb1.2 fun i hi=>⟨hi,h.1 i hi⟩] at hc;cases hc
  refine Wk.ret ⟨_,Rs.tmp rfl Rs.nil,_,Sub.none _,Bis.of (by simpa using key),rfl⟩
end Go.Proofs.J
namespace Go.Proofs.J
open Go.Ev Go
theorem ChkO {Z:Zone} {nm:ByteArray} {ve va vw:Value} {t:Tbl} (h:TbR Z nm ve va vw t) (ht:t.Sm) :
  Cz M (.func (.func 125) #[] #[]) [.agg ⟨[.string nm,ve,va,vw]⟩] Z [] (fun v' Z' A'=>Ers v' t.Ok 4∧Z=Z'∧A'=[]):=by
 refine Cz.shrink ?_
 obtain rfl:=h.name
 have se0:=h.elems
 have no:¬ t.Ok→Ers (outOf [.int .i64 4]) t.Ok 4:=fun h=>.inr ⟨h,rfl⟩
 refine Cz.fn (f:=Tryz.f125) Ev.cM rfl rfl rfl _ rfl ?_
 repeat first|refine go ?_|with_reducible intro _
 first|refine Wk.freezer Rem.head fun Z1 e1 h4=>?_|refine Wk.freeze Rem.head fun Z1 e1 h4=>?_
 first|refine Wk.freezer Rem.head fun Z2 e2 h3=>?_|refine Wk.freeze Rem.head fun Z2 e2 h3=>?_
 first|refine Wk.freezer Rem.head fun Z3 e3 h1=>?_|refine Wk.freeze Rem.head fun Z3 e3 h1=>?_
 have h':=h.mono (e1.trans (e2.trans e3))
 have h4':=e3 _ _ (e2 _ _ h4)
 have h3':=e3 _ _ h3
 clear se0
 have se:=h'.elems
 have sw:=h'.wrong
 obtain ⟨us,sa,ra⟩:=h'.above
 refine Wk.call rfl rfl (Spl.none _) (isTable t.name ht.name) rfl rfl rfl ?_
 rintro v' Z' A' hz ⟨⟨b,rfl,hb⟩,rfl,rfl⟩
 refine Ev.gT ?_
 refine Wk.caser 17 rfl (fun hc=>?_) (fun hc=>?_)
 ·refine Ev.gT ?_
  refine Wk.ret ⟨_,Rs.tmp rfl Rs.nil,_,Sub.none _,no fun ok=>?_,rfl⟩
  rw [hb.2 ok.1] at hc;cases hc
 have o1:IsTableName t.name:=hb.1 (by simpa using hc)
 refine Ev.gT ?_
 refine Wk.caser 21 rfl (fun hc=>?_) (fun hc=>?_)
 ·refine Ev.gT ?_
  refine Wk.ret ⟨_,Rs.tmp rfl Rs.nil,_,Sub.none _,no fun ok=>?_,rfl⟩
  have:=ok.2.1
  simp at hc;omega
 have o2:1≤t.elems.length:=by simp at hc;omega
 refine Ev.gT ?_
 refine Wk.caser 25 rfl (fun hc=>?_) (fun hc=>?_)
 ·refine Ev.gT ?_
  refine Wk.ret ⟨_,Rs.tmp rfl Rs.nil,_,Sub.none _,no fun ok=>?_,rfl⟩
  have:=ok.2.2.1
  simp at hc;omega
 have o3:t.elems.length≤12:=by simp at hc;omega
 refine Ev.gT ?_
 refine Wk.caser 32 rfl (fun hc=>?_) (fun hc=>?_)
 ·refine Ev.gT ?_
  refine Wk.ret ⟨_,Rs.tmp rfl Rs.nil,_,Sub.none _,no fun ok=>?_,rfl⟩
  have:=ok.2.2.2.1
  simp at hc;omega
 have o4:t.above.length=t.elems.length:=by simp at hc;omega
 refine Ev.gT ?_
 refine Wk.caser 39 rfl (fun hc=>?_) (fun hc=>?_)
 ·refine Ev.gT ?_
  refine Wk.ret ⟨_,Rs.tmp rfl Rs.nil,_,Sub.none _,no fun ok=>?_,rfl⟩
  have:=ok.2.2.2.2.1
  simp at hc;omega
 have o5:t.wrong.length=t.elems.length:=by simp at hc;omega
 refine Ev.gT ?_
 refine Wk.call rfl rfl (Spl.none _) (allStr (fun i=>∃ h:i < t.elems.length,IsName t.elems[i]∧∀ j (hj:j < i),t.elems[j]≠t.elems[i]) se ht.elems (fun i u hi hu=>by
  have:u=.string t.elems[i]:=by simpa [hi] using hu.symm
  subst this
  exact (chk2 (Z:=Z3) i t.elems[i] (ht.each _ (List.getElem_mem hi)) hi ht.elems h1 se).mono fun v' Z' A' _ q=>⟨q.1.imp ⟨fun h=>⟨hi,h⟩,fun ⟨_,h⟩=>h⟩,q.2⟩)) rfl rfl rfl ?_
 rintro v' Z' A' hz ⟨⟨b2,rfl,hb2⟩,rfl,rfl⟩
 refine Ev.gT ?_
 refine Wk.caser 46 rfl (fun hc=>?_) (fun hc=>?_)
 ·refine Ev.gT ?_
  refine Wk.ret ⟨_,Rs.tmp rfl Rs.nil,_,Sub.none _,no fun ok=>?_,rfl⟩
  rw [hb2.2 fun i hi=>⟨hi,ok.2.2.2.2.2.1 i hi,fun j hj=>ok.2.2.2.2.2.2.1 i j hi hj⟩] at hc;cases hc
 have o6:=hb2.1 (by simpa using hc)
 refine Ev.gT ?_
 refine Wk.call rfl rfl (Spl.none _) (allInts (fun i=>∃ h:i < t.above.length,RowOk t.elems.length t.above[i]) sa ht.above (fun i u hi hu=>by
  obtain ⟨u',k1,k2⟩:=ra i hi
  rw [k1] at hu
  obtain rfl:u'=u:=by simpa using hu
  exact (chk3 (Z:=Z3) (n:=t.elems.length) i (ht.rows _ (List.getElem_mem hi)) h4' h3' k2).mono fun v' Z' A' _ q=>⟨q.1.imp ⟨fun h=>⟨hi,h⟩,fun ⟨_,h⟩=>h⟩,q.2⟩)) rfl rfl rfl ?_
 rintro v' Z' A' hz ⟨⟨b3,rfl,hb3⟩,rfl,rfl⟩
 refine Ev.gT ?_
 refine Wk.cond rfl (fun hc=>?_) (fun hc=>?_)
 ·refine Ev.gT ?_
  refine Wk.ret ⟨_,Rs.tmp rfl Rs.nil,_,Sub.none _,no fun ok=>?_,rfl⟩
  rw [hb3.2 fun i hi=>⟨hi,ok.2.2.2.2.2.2.2 i hi⟩] at hc;cases hc
 ·have o7:=hb3.1 (by simpa using hc)
  refine Ev.gT ?_
  exact Wk.ret ⟨_,Rs.tmp rfl Rs.nil,_,Sub.none _,.inl ⟨⟨o1,o2,o3,o4,o5,fun i hi=>(o6 i hi).2.1,fun i j hi hj=>(o6 i hi).2.2 j hj,fun i hi=>(o7 i hi).2⟩,rfl⟩,rfl⟩
end Go.Proofs.J
namespace Go.Proofs.J
open Go.Ev Go
theorem cloneI {Z:Zone} {v:Value} {m:Nat} {vs:List Value} (h:Sl Z 1 v m vs) (hm:m≤1000000) (ok:okCells vs=true):Cz M (.func (.func 151) #[] #[]) [v] Z [] (fun v' Z' A'=>Z=Z'∧A'=[ol 1 v' m vs]):=by
 have hl:=h.length
 have h0:=h
 rcases h with ⟨rfl,rfl,rfl⟩|⟨b,off,c,xs,wr,g,rfl,h2,h3,h4,h5⟩
 ·refine Cz.fn (f:=Tryz.f151) Ev.cM rfl rfl rfl _ rfl ?_
  refine Ev.gT ?_
  refine Wk.olNil 1 ?_
  exact Wk.ret ⟨_,Rs.tmp rfl Rs.nil,_,Sub.refl _,rfl,rfl⟩
 ·refine Cz.fn (f:=Tryz.f151) Ev.cM rfl rfl rfl _ rfl ?_
  refine Ev.gT ?_
  refine Wk.bs rfl rfl rfl rfl rfl rfl rfl fun b5=>?_
  refine Ev.gT ?_
  refine Wk.alterr (C:=[ol 1 (.slice (some ⟨b5,0,none⟩) 0 0) 0 []]) Ev.rM (fun s h=>ol_of_pt (m:=0) (vs:=[]) (g:=0) rfl (.inl rfl) rfl h) ?_
  refine Wk.append rfl rfl rfl rfl rfl rfl rfl rfl Rem.head (Src.sl h0) rfl ok hl Ev.wM Ev.wM rfl rfl rfl fun v7=>?_
  refine Ev.gT ?_
  exact Wk.ret ⟨_,Rs.tmp rfl Rs.nil,_,Sub.refl _,rfl,by simp only [Nat.zero_add,List.nil_append];rfl⟩
theorem from_ {Z:Zone} {bt:Nat} {nm:ByteArray} {ve va vw vs:Value} {t:Tbl} (h:TbR Z nm ve va vw t) (ht:t.Sm) (ok:t.Ok) (a:Nat) (ha:a < t.above.length) :
  Cz M (.func (.func 209) #[] #[]) [.pointer (some ⟨bt,0,none⟩),.int .i64 a] Z [pt bt (.cells [.string nm,ve,va,vw,vs] true 0)]
   (fun v' Z' A'=>Z=Z'∧∃ l:List Bool,l.length=t.elems.length∧(∀ b,l[b]?=some true↔t.St a b)∧A'=[ol 1 v' t.elems.length (l.map Value.bool),pt bt (.cells [.string nm,ve,va,vw,vs] true 0)]):=by
 have se:=h.elems
 obtain ⟨us,sa,ra⟩:=h.above
 obtain ⟨u,ua,su⟩:=ra a ha
 have hn:=ok.2.2.1
 have hg:getCells us (a*1) 1=some [u]:=getCells_one (by rw [Nat.mul_one];exact ua)
 refine Cz.fn (f:=Tryz.f209) Ev.cM rfl rfl rfl _ rfl ?_
 refine Ev.gT ?_
 refine Wk.mks t.elems.length t.elems.length rfl rfl rfl rfl rfl rfl rfl rfl (Nat.le_refl _) (by show 1*t.elems.length≤_;omega) Ev.wM fun b5=>?_
 refine Wk.alterr Rem.head (fun s h=>olp_bool h) ?_
 repeat first|refine go ?_|with_reducible intro _
 refine Wk.call rfl rfl (Spl.none _) (cloneI su (ht.rows _ (List.getElem_mem ha)) (okCells_int _)) rfl rfl rfl ?_
 rintro v6 Z' A' hz ⟨rfl,rfl⟩
 refine Wk.olqr Rem.head ?_
 refine Ev.gT ?_
 have h0:t.above[a].length≤12:=by have:=(ok.2.2.2.2.2.2.2 a ha).length;omega
 refine Wk.loop (fun mm L Z' A'=>∃ (been:List Bool) (todo:List Int) (v6:Value),Bfs t a been todo∧todo.length+12*been.count false≤156∧mm=been.count false*14+todo.length∧Z=Z'∧Sub A' [oq 1 v6 todo.length (todo.map (Value.int .i64)),olp b5 1 (.slice (some ⟨b5,0,none⟩) t.elems.length t.elems.length) t.elems.length (been.map Value.bool),pt bt (.cells [.string nm,ve,va,vw,vs] true 0)]∧Kp L [(0,.pointer (some ⟨bt,0,none⟩)),(5,.slice (some ⟨b5,0,none⟩) t.elems.length t.elems.length),(6,v6)]) _ ⟨_,_,_,Bfs.init ha ok,by simp;omega,rfl,rfl,Sub.refl _,Ev.kM⟩ ?_
 rintro mm L Z' A' - ⟨been,todo,v6,hB,hle,rfl,rfl,hsub,hk⟩
 refine Wk.drop hsub ?_
 refine Wk.kp hk ?_
 clear hk hsub
 refine Ev.gT ?_
 refine Wk.cond rfl (fun hc=>?_) (fun hc=>?_)
 ·cases todo with
  | nil=>simp at hc
  | cons c rest =>
  obtain ⟨k,rfl,hst⟩:=hB.s2 c (List.mem_cons_self ..)
  have hkn:k < t.elems.length:=hst.lt ok
  have hka:k < t.above.length:=by rw [ok.2.2.2.1];exact hkn
  have hkb:k < been.length:=by rw [hB.len];exact hkn
  obtain ⟨uk,uka,suk⟩:=ra k hka
  have hgk:getCells us (k*1) 1=some [uk]:=getCells_one (by rw [Nat.mul_one];exact uka)
  have hrow:=(ok.2.2.2.2.2.2.2 k hka).length
  refine Ev.gT ?_
  refine Wk.oqOpenr Rem.head (by simp) fun b off=>?_
  refine Wk.iaOqp 0 Rem.head rfl rfl rfl rfl rfl rfl rfl (by simp) ?_
  refine Wk.loadOqp1 (o:=0*1) (v:=.int .i64 k) rfl rfl Rem.head rfl (by simp) rfl rfl ?_
  refine Wk.oqShutr Rem.head ?_
  refine Ev.gT ?_
  refine Wk.sliceOq (l:=1) Rem.head rfl rfl rfl rfl rfl (by simp) rfl rfl rfl fun v7=>?_
  refine Ev.gT ?_
  refine Wk.iaOlp k (Rem.tail Rem.head) rfl rfl rfl rfl rfl rfl rfl hkn ?_
  refine Wk.loadOlp rfl rfl (Rem.tail Rem.head) (getCells_map (f:=Value.bool) hkb) rfl rfl rfl ?_
  refine Ev.gT ?_
  refine Wk.cond rfl (fun hd=>?_) (fun hd=>?_)
  ·have hbk:been[k]=false:=by simpa using hd
   have hcnt:=count_mark hkb hbk
   refine Ev.gT ?_
   refine Wk.iaOlp k (Rem.tail Rem.head) rfl rfl rfl rfl rfl rfl rfl hkn ?_
   refine Wk.storeOlp rfl rfl rfl rfl rfl (Rem.tail Rem.head) (set_cells Value.bool been k true hkb) rfl rfl ?_
   repeat first|refine go ?_|with_reducible intro _
   refine Wk.appendQ rfl rfl rfl rfl rfl rfl rfl rfl (Rem.tail Rem.head) (Src.sl suk) rfl (okCells_int _) (by simp) (by simp at hle ⊢;omega) (by simp at hle ⊢;omega) rfl rfl rfl fun v10=>?_
   refine Ev.gT ?_
   refine Wk.inv ⟨_,?_,been.set k true,rest++t.above[k],v10,hB.mark ok hka,?_,rfl,rfl,?_,Ev.kM⟩
   ·simp only [List.length_append,List.length_cons] at hle ⊢;omega
   ·simp only [List.length_append,List.length_cons] at hle ⊢;omega
   ·rw [List.length_append,List.map_append];exact Sub.refl _
  ·have hbk:been[k]?=some true:=by rw [List.getElem?_eq_getElem hkb];simpa using hd
   refine Ev.gT ?_
   refine Wk.inv ⟨_,?_,been,rest,v7,hB.skip hbk,?_,rfl,rfl,?_,Ev.kM⟩
   ·simp only [List.length_cons] at hle ⊢;omega
   ·simp only [List.length_cons] at hle ⊢;omega
   ·exact Sub.refl _
 ·have:todo=[]:=by
   cases todo with
   | nil=>rfl
   | cons _ _=>simp at hc
  subst this
  refine Ev.gT ?_
  refine Wk.alter (Rem.tail Rem.head) (fun s hs=>Sat.one (olp.ol hs)) ?_
  exact Wk.ret ⟨_,Rs.tmp rfl Rs.nil,_,Ev.sM,rfl,been,hB.len,hB.done,rfl⟩
end Go.Proofs.J
namespace Go.Proofs.J
open Go.Ev Go
theorem isBelow {Z:Zone} {bt:Nat} {t:Tbl} (h:TabR Z bt t) (a b:Nat) (ha:a < t.elems.length) (hb:b < t.elems.length) :
  Cz M (.func (.func 164) #[] #[]) [.pointer (some ⟨bt,0,none⟩),.int .i64 a,.int .i64 b] Z [] (fun v' Z' A'=>Bis v' (t.Bl a b)∧Z=Z'∧A'=[]):=by
 obtain ⟨nm,ve,va,vw,vs,us,h1,h2,h3,h4⟩:=h.rep
 obtain ⟨u,l,k1,k2,k3,k4⟩:=h4 a ha
 have hg:getCells us (a*1) 1=some [u]:=getCells_one (by rw [Nat.mul_one];exact k1)
 have hbl:b < l.length:=by omega
 refine Cz.fn (f:=Tryz.f164) Ev.cM rfl rfl rfl _ rfl ?_
 refine Ev.gT ?_
 refine Wk.caser 10 rfl (fun hc=>?_) (fun hc=>?_)
 ·refine Ev.gT ?_
  have hab:a=b:=by simp at hc;omega
  refine Wk.ret ⟨_,Rs.tmp rfl Rs.nil,_,Sub.none _,Bis.of (by simp [Tbl.Bl,hab]),rfl,rfl⟩
 ·repeat first|refine go ?_|with_reducible intro _
  have key:l[b]=true↔t.Bl a b:=by
   rw [Tbl.Bl,←k4 b,List.getElem?_eq_getElem hbl]
   have hab:¬ a=b:=by simp at hc;omega
   simp [hab]
  refine Wk.ret ⟨_,Rs.tmp rfl Rs.nil,_,Sub.none _,Bis.of key,rfl,rfl⟩
theorem where_ {Z:Zone} {bt:Nat} {t:Tbl} {fv:Value} (p:Nat→Prop) (h:TabR Z bt t) (hp:∀ a,a < t.elems.length→Cz M fv [.int .i64 a] Z [] (fun v' Z' A'=>Bis v' (p a)∧Z=Z'∧A'=[])) :
  Cz M (.func (.func 162) #[] #[]) [.pointer (some ⟨bt,0,none⟩),fv] Z [] (fun v' Z' A'=>Z=Z'∧∃ l:List Nat,Whe t.elems.length p l∧A'=[ol 1 v' l.length (nats l)]):=by
 obtain ⟨nm,ve,va,vw,vs,us,h1,h2,h3,h4⟩:=h.rep
 have se:=h2.elems
 have hn:=h.ok.2.2.1
 refine Cz.fn (f:=Tryz.f162) Ev.cM rfl rfl rfl _ rfl ?_
 refine Ev.gT ?_
 refine Wk.olNil 1 ?_
 refine Wk.loop (fun mm L Z' A'=>∃ (j:Nat) (l:List Nat) (v5:Value),j≤t.elems.length∧mm=t.elems.length - j∧Z=Z'∧Whe j p l∧Sub A' [ol 1 v5 l.length (nats l)]∧Kp L [(1,fv),(5,v5),(12,.int .i64 t.elems.length),(13,.int .i64 j)]) t.elems.length ⟨0,[],_,Nat.zero_le _,rfl,rfl,Whe.nil,Sub.refl _,Ev.kM⟩ ?_
 rintro mm L Z' A' - ⟨j,l,v5,hj,rfl,rfl,hw,hsub,hk⟩
 refine Wk.drop hsub ?_
 refine Wk.kp hk ?_
 clear hk hsub
 have hl:=hw.len
 refine Ev.gT ?_
 refine Wk.cond rfl (fun hc=>?_) (fun hc=>?_)
 ·have hlt:j < t.elems.length:=by simp at hc;omega
  refine Ev.gT ?_
  refine Wk.call rfl rfl (Spl.none _) (hp j hlt) rfl rfl rfl ?_
  rintro v' Z' A' hz ⟨⟨b,rfl,hb⟩,rfl,rfl⟩
  refine Ev.gT ?_
  refine Wk.cond rfl (fun hc=>?_) (fun hc=>?_)
  ·refine Ev.gT ?_
   refine Wk.bs rfl rfl rfl rfl rfl rfl rfl fun b21=>?_
   refine Wk.append rfl rfl rfl rfl rfl rfl rfl rfl (Rem.tail Rem.head) (Src.lit (.inr (List.Mem.head _)) rfl) rfl rfl rfl Ev.wM Ev.wM rfl rfl rfl fun v22=>?_
   refine Ev.gT ?_
   exact Wk.inv ⟨_,by omega,j+1,l++[j],v22,by omega,rfl,rfl,hw.snoc (hb.1 hc),by rw [nats_snoc,List.length_append];exact .keep (Sub.none _),Ev.kM⟩
  ·refine Ev.gT ?_
   exact Wk.inv ⟨_,by omega,j+1,l,v5,by omega,rfl,rfl,hw.skip (fun h=>by rw [hb.2 h] at hc;cases hc),Sub.refl _,Ev.kM⟩
 ·have hjn:j=t.elems.length:=by simp at hc;omega
  subst hjn
  refine Ev.gT ?_
  exact Wk.ret ⟨_,Rs.tmp rfl Rs.nil,_,Sub.refl _,rfl,l,hw,rfl⟩
theorem first_ {Z:Zone} {bt:Nat} {t:Tbl} {fv:Value} (p:Nat→Prop) (h:TabR Z bt t) (hp:∀ a,a < t.elems.length→Cz M fv [.int .i64 a] Z [] (fun v' Z' A'=>Bis v' (p a)∧Z=Z'∧A'=[])) :
  Cz M (.func (.func 210) #[] #[]) [.pointer (some ⟨bt,0,none⟩),fv] Z [] (fun v' Z' A'=>(∃ (r:Int) (b:Bool),v'=.tuple ⟨[.int .i64 r,.bool b]⟩∧(b=true↔∃ a,a < t.elems.length∧p a))∧Z=Z'∧A'=[]):=by
 refine Cz.shrink ?_
 refine Cz.fn (f:=Tryz.f210) Ev.cM rfl rfl rfl _ rfl ?_
 refine Ev.gT ?_
 refine Wk.call rfl rfl (Spl.none _) (where_ p h hp) rfl rfl rfl ?_
 rintro v6 Z' A' hz ⟨rfl,l,hw,rfl⟩
 refine Ev.gT ?_
 refine Wk.cond rfl (fun hc=>?_) (fun hc=>?_)
 ·refine Ev.gT ?_
  refine Wk.ret ⟨_,Rs.tmp rfl (Rs.tmp rfl Rs.nil),_,Sub.none _,⟨_,_,rfl,?_⟩,rfl⟩
  have:l=[]:=by simpa using hc
  subst this
  simp only [Bool.false_eq_true,false_iff]
  rintro ⟨a,ha⟩
  exact absurd ((hw.mem a).2 ha) (by simp)
 ·have hpos:0 < l.length:=by
   cases l with
   | nil=>simp at hc
   | cons _ _=>simp
  first|apply Wk.olFreezer (v:=v6)|apply Wk.olFreeze (v:=v6)
  case p=>repeat (first|exact Rem.head|apply Rem.tail)
  intro Z1 e1 s6
  repeat first|refine go ?_|with_reducible intro _
  refine Wk.ret ⟨_,Rs.tmp rfl (Rs.tmp rfl Rs.nil),_,Sub.none _,⟨_,_,rfl,?_⟩,rfl⟩
  simp only [true_iff]
  exact ⟨_,(hw.mem l[0]).1 (List.getElem_mem hpos)⟩
theorem bounds11 {Z:Zone} {bt b2 b3:Nat} {t:Tbl} (h:TabR Z bt t) (i:Int) (a c:Nat) (ha:a < t.elems.length) (hc:c < t.elems.length) (h2:Z b2=some (.cells [.pointer (some ⟨bt,0,none⟩)] true 0)) (h3:Z b3=some (.cells [.int .i64 c] true 0)) :
  Cz M (.func (.func 217) #[] ⟨[.pointer (some ⟨b2,0,none⟩),.pointer (some ⟨b3,0,none⟩)]⟩) [.int .i64 i,.int .i64 a] Z [] (fun v' Z' A'=>Bis v' (t.Bl a c)∧Z=Z'∧A'=[]):=by
 refine Cz.fn (f:=Tryz.f217) Ev.cM rfl rfl rfl _ rfl ?_
 refine Ev.gT ?_
 refine Wk.call rfl rfl (Spl.none _) (isBelow h a c ha hc) rfl rfl rfl ?_
 rintro v' Z' A' hz ⟨hb,rfl,rfl⟩
 refine Ev.gT ?_
 refine Wk.ret ⟨_,Rs.tmp rfl Rs.nil,_,Sub.none _,hb,rfl,rfl⟩
theorem bounds1 {Z:Zone} {bt b1 b2:Nat} {t:Tbl} (h:TabR Z bt t) {vl:Value} {l:List Nat} (sl:Sl Z 1 vl l.length (nats l)) (hl:l.length≤1000000) (hin:∀ a∈l,a < t.elems.length) (c:Nat) (hc:c < t.elems.length) (h1:Z b1=some (.cells [vl] true 0)) (h2:Z b2=some (.cells [.pointer (some ⟨bt,0,none⟩)] true 0)) :
  Cz M (.func (.func 216) #[] ⟨[.pointer (some ⟨b1,0,none⟩),.pointer (some ⟨b2,0,none⟩)]⟩) [.int .i64 c] Z [] (fun v' Z' A'=>Bis v' (∀ a∈l,t.Bl a c)∧Z=Z'∧A'=[]):=by
 refine Cz.shrink ?_
 refine Cz.fn (f:=Tryz.f216) Ev.cM rfl rfl rfl _ rfl ?_
 repeat first|refine go ?_|with_reducible intro _
 first|refine Wk.freezer Rem.head fun Z1 e1 h3=>?_|refine Wk.freeze Rem.head fun Z1 e1 h3=>?_
 refine Wk.call rfl rfl (Spl.none _) (allInt (fun i=>∀ h:i < l.length,t.Bl l[i] c) (sl.mono e1) hl (fun i u hi hu=>by
  rw [nats_get hi] at hu
  obtain rfl:=Option.some.inj hu
  exact (bounds11 (h.mono e1) i l[i] c (hin _ (List.getElem_mem hi)) hc (e1 _ _ h2) h3).mono fun v' Z' A' _ q=>⟨q.1.imp ⟨fun h _=>h,fun h=>h hi⟩,q.2⟩)) rfl rfl rfl ?_
 rintro v' Z' A' hz ⟨hb,rfl,rfl⟩
 refine Ev.gT ?_
 refine Wk.ret ⟨_,Rs.tmp rfl Rs.nil,_,Sub.none _,hb.imp ⟨fun h a ha=>?_,fun h i hi _=>h _ (List.getElem_mem hi)⟩,rfl⟩
 obtain ⟨i,hi,rfl⟩:=List.getElem_of_mem ha
 exact h i hi hi
theorem bounds_ {Z:Zone} {bt:Nat} {t:Tbl} (h:TabR Z bt t) {vl:Value} {l:List Nat} (sl:Sl Z 1 vl l.length (nats l)) (hl:l.length≤1000000) (hin:∀ a∈l,a < t.elems.length) :
  Cz M (.func (.func 188) #[] #[]) [.pointer (some ⟨bt,0,none⟩),vl] Z [] (fun v' Z' A'=>∃ r:List Nat,Whe t.elems.length (fun c=>∀ a∈l,t.Bl a c) r∧A'=[ol 1 v' r.length (nats r)]):=by
 obtain ⟨al,cl,rfl⟩:=sl.form
 refine Cz.fn (f:=Tryz.f188) Ev.cM rfl rfl rfl _ rfl ?_
 repeat first|refine go ?_|with_reducible intro _
 first|refine Wk.freezer Rem.head fun Z1 e1 h3=>?_|refine Wk.freeze Rem.head fun Z1 e1 h3=>?_
 first|refine Wk.freezer Rem.head fun Z2 e2 h2=>?_|refine Wk.freeze Rem.head fun Z2 e2 h2=>?_
 have e:=e1.trans e2
 refine Wk.call rfl rfl (Spl.none _) (where_ (fun c=>∀ a∈l,t.Bl a c) (h.mono e) (fun c hc=>bounds1 (h.mono e) (sl.mono e) hl hin c hc (e2 _ _ h3) h2)) rfl rfl rfl ?_
 rintro v' Z' A' hz ⟨rfl,r,hr,rfl⟩
 refine Ev.gT ?_
 exact Wk.ret ⟨_,Rs.tmp rfl Rs.nil,_,Sub.refl _,r,hr,rfl⟩
end Go.Proofs.J
namespace Go.Proofs.J
open Go.Ev Go
theorem indexFnI {Z:Zone} {v fv:Value} {us:List Value} {n:Nat} (p:Nat→Prop) (s:Sl Z 1 v n us) (hn:n≤1000000)
  (hp:∀ i u,i < n→us[i]?=some u→Cz M fv [u] Z [] (fun v' Z' A'=>Bis v' (p i)∧Z=Z'∧A'=[])) :
  Cz M (.func (.func 191) #[] #[]) [v,fv] Z [] (fun v' Z' A'=>(∃ r:Int,v'=.int .i64 r∧((∃ i:Nat,r=i∧i < n∧p i)∨(r=-1∧∀ i,i < n→¬ p i)))∧Z=Z'∧A'=[]):=by
 have hul:=s.length
 refine Cz.fn (f:=Tryz.f191) Ev.cM rfl rfl rfl _ rfl ?_
 refine Ev.gT ?_
 refine Wk.loop (fun mm L Z' A'=>∃ j:Nat,j≤n∧mm=n - j∧Z=Z'∧Sub A' []∧(∀ i,i < j→¬ p i)∧Kp L [(0,v),(1,fv),(6,v),(7,.int .i64 n),(8,.int .i64 j)]) (n) ⟨0,Nat.zero_le _,rfl,rfl,Ev.sM,fun i h=>by omega,Ev.kM⟩ ?_
 rintro mm L Z' A' - ⟨j,hjj,rfl,rfl,hsub,invj,hk⟩
 refine Wk.drop hsub ?_
 refine Wk.kp hk ?_
 clear hk hsub
 refine Ev.gT ?_
 refine Wk.cond rfl (fun hc=>?_) (fun hc=>?_)
 ·have hlt:j < n:=by simp at hc;omega
  have e1:us[j]?=some us[j]:=List.getElem?_eq_getElem Ev.wM
  have e2:getCells us (j*1) 1=some [us[j]]:=getCells_one (by rw [Nat.mul_one];exact e1)
  repeat first|refine go ?_|with_reducible intro _
  refine Wk.call rfl rfl (Spl.none _) (hp j _ hlt e1) rfl rfl rfl ?_
  rintro v' Z' A' hz ⟨⟨b,rfl,hb⟩,rfl,rfl⟩
  refine Ev.gT ?_
  refine Wk.cond rfl (fun hc=>?_) (fun hc=>?_)
  ·refine Ev.gT ?_
   refine Wk.ret ⟨_,Rs.tmp rfl Rs.nil,_,Sub.none _,⟨_,rfl,.inl ⟨j,rfl,hlt,hb.1 hc⟩⟩,rfl,rfl⟩
  ·refine Ev.gT ?_
   refine Wk.inv ⟨_,by omega,j+1,by omega,rfl,rfl,Ev.sM,(nextP invj (fun h=>by rw [hb.2 h] at hc;cases hc)),Ev.kM⟩
 ·refine Ev.gT ?_
  refine Wk.ret ⟨_,Rs.tmp rfl Rs.nil,_,Sub.none _,⟨_,rfl,.inr ⟨rfl,fun i h=>invj i (by simp at hc;omega)⟩⟩,rfl,rfl⟩
theorem join11 {Z:Zone} {bt b2 b3:Nat} {t:Tbl} (h:TabR Z bt t) (i:Int) (d c:Nat) (hd:d < t.elems.length) (hc:c < t.elems.length) (h2:Z b2=some (.cells [.pointer (some ⟨bt,0,none⟩)] true 0)) (h3:Z b3=some (.cells [.int .i64 c] true 0)) :
  Cz M (.func (.func 190) #[] ⟨[.pointer (some ⟨b2,0,none⟩),.pointer (some ⟨b3,0,none⟩)]⟩) [.int .i64 i,.int .i64 d] Z [] (fun v' Z' A'=>Bis v' (t.Bl c d)∧Z=Z'∧A'=[]):=by
 refine Cz.fn (f:=Tryz.f190) Ev.cM rfl rfl rfl _ rfl ?_
 refine Ev.gT ?_
 refine Wk.call rfl rfl (Spl.none _) (isBelow h c d hc hd) rfl rfl rfl ?_
 rintro v' Z' A' hz ⟨hb,rfl,rfl⟩
 refine Ev.gT ?_
 refine Wk.ret ⟨_,Rs.tmp rfl Rs.nil,_,Sub.none _,hb,rfl,rfl⟩
theorem join1 {Z:Zone} {bt b1 b2:Nat} {t:Tbl} (h:TabR Z bt t) {vl:Value} {l:List Nat} (sl:Sl Z 1 vl l.length (nats l)) (hl:l.length≤1000000) (hin:∀ a∈l,a < t.elems.length) (c:Nat) (hc:c < t.elems.length) (h1:Z b1=some (.cells [vl] true 0)) (h2:Z b2=some (.cells [.pointer (some ⟨bt,0,none⟩)] true 0)) :
  Cz M (.func (.func 189) #[] ⟨[.pointer (some ⟨b1,0,none⟩),.pointer (some ⟨b2,0,none⟩)]⟩) [.int .i64 c] Z [] (fun v' Z' A'=>Bis v' (∀ d∈l,t.Bl c d)∧Z=Z'∧A'=[]):=by
 refine Cz.shrink ?_
 refine Cz.fn (f:=Tryz.f189) Ev.cM rfl rfl rfl _ rfl ?_
 repeat first|refine go ?_|with_reducible intro _
 first|refine Wk.freezer Rem.head fun Z1 e1 h3=>?_|refine Wk.freeze Rem.head fun Z1 e1 h3=>?_
 refine Wk.call rfl rfl (Spl.none _) (allInt (fun i=>∀ h:i < l.length,t.Bl c l[i]) (sl.mono e1) hl (fun i u hi hu=>by
  rw [nats_get hi] at hu
  obtain rfl:=Option.some.inj hu
  exact (join11 (h.mono e1) i l[i] c (hin _ (List.getElem_mem hi)) hc (e1 _ _ h2) h3).mono fun v' Z' A' _ q=>⟨q.1.imp ⟨fun h _=>h,fun h=>h hi⟩,q.2⟩)) rfl rfl rfl ?_
 rintro v' Z' A' hz ⟨hb,rfl,rfl⟩
 refine Ev.gT ?_
 refine Wk.ret ⟨_,Rs.tmp rfl Rs.nil,_,Sub.none _,hb.imp ⟨fun h a ha=>?_,fun h i hi _=>h _ (List.getElem_mem hi)⟩,rfl⟩
 obtain ⟨i,hi,rfl⟩:=List.getElem_of_mem ha
 exact h i hi hi
theorem join_ {Z:Zone} {bt:Nat} {t:Tbl} (h:TabR Z bt t) (a b:Nat) (ha:a < t.elems.length) (hb:b < t.elems.length) :
  Cz M (.func (.func 153) #[] #[]) [.pointer (some ⟨bt,0,none⟩),.int .i64 a,.int .i64 b] Z [] (fun v' Z' A'=>(∃ (x:Int) (f:Bool),v'=.tuple ⟨[.int .i64 x,.bool f]⟩∧(f=true→∃ c:Nat,x=c∧t.Jn a b c)∧(f=false→¬ ∃ c,t.Jn a b c))∧Z=Z'∧A'=[]):=by
 refine Cz.shrink ?_
 refine Cz.fn (f:=Tryz.f153) Ev.cM rfl rfl rfl _ rfl ?_
 repeat first|refine go ?_|with_reducible intro _
 refine Wk.bs rfl rfl rfl rfl rfl rfl rfl fun b14=>?_
 first|refine Wk.freezer Rem.head fun Z1 e1 h14=>?_|refine Wk.freeze Rem.head fun Z1 e1 h14=>?_
 have s14:Sl Z1 1 (.slice (some ⟨b14,0,none⟩) 2 2) [a,b].length (nats [a,b]):=Sl.ofAll h14 rfl (.inl rfl)
 refine Wk.call rfl rfl (Spl.none _) (bounds_ (h.mono e1) s14 (by simp) (by simp [ha,hb])) rfl rfl rfl ?_
 rintro v15 Z2 A' e2 ⟨r,hr,rfl⟩
 have hjn:∀ c,t.Jn a b c↔c∈r∧∀ d∈r,t.Bl c d:=by
  intro c
  have hm:=fun x=>hr.mem x
  simp only [List.mem_cons,List.not_mem_nil,or_false,forall_eq_or_imp,forall_eq] at hm
  constructor
  ·rintro ⟨h1,h2,h3,h4⟩
   exact ⟨(hm c).2 ⟨h1,h2,h3⟩,fun d hd=>have:=(hm d).1 hd;h4 d this.1 this.2.1 this.2.2⟩
  ·rintro ⟨h1,h2⟩
   have:=(hm c).1 h1
   exact ⟨this.1,this.2.1,this.2.2,fun d k1 k2 k3=>h2 d ((hm d).2 ⟨k1,k2,k3⟩)⟩
 have hrl:=hr.len
 have hn:=h.ok.2.2.1
 refine Wk.knowr Rem.head (fun s h=>ol.form h) ?_
 rintro ⟨ax,cx,rfl⟩
 repeat first|refine go ?_|with_reducible intro _
 first|apply Wk.olFreezer (v:=.slice ax r.length cx)|apply Wk.olFreeze (v:=.slice ax r.length cx)
 case p=>repeat (first|exact Rem.head|apply Rem.tail)
 intro Z3 e3 s15
 refine Ev.gT ?_
 first|refine Wk.freezer Rem.head fun Z4 e4 h8=>?_|refine Wk.freeze Rem.head fun Z4 e4 h8=>?_
 first|refine Wk.freezer Rem.head fun Z5 e5 h3=>?_|refine Wk.freeze Rem.head fun Z5 e5 h3=>?_
 have hz:=e1.trans (e2.trans (e3.trans (e4.trans e5)))
 have sr:=s15.mono (e4.trans e5)
 refine Wk.call rfl rfl (Spl.none _) (indexFnI (fun i=>∀ hi:i < r.length,∀ d∈r,t.Bl r[i] d) sr Ev.wM (fun i u hi hu=>by
  rw [nats_get hi] at hu
  obtain rfl:=Option.some.inj hu
  exact (join1 (h.mono hz) sr Ev.wM (fun x hx=>((hr.mem x).1 hx).1) r[i] ((hr.mem _).1 (List.getElem_mem hi)).1 (e5 _ _ h8) h3).mono fun v' Z' A' _ q=>⟨q.1.imp ⟨fun h _=>h,fun h=>h hi⟩,q.2⟩)) rfl rfl rfl ?_
 rintro v19 Z' A' hz ⟨⟨x,rfl,hx⟩,rfl,rfl⟩
 rcases hx with ⟨i,rfl,hi,hpi⟩|⟨rfl,hno⟩
 ·have hg:getCells (nats r) (i*1) 1=some [.int .i64 (r[i]:Nat)]:=getCells_one (by rw [Nat.mul_one];exact nats_get hi)
  have h8':=e5 _ _ h8
  repeat first|refine go ?_|with_reducible intro _
  exact Wk.ret ⟨_,Rs.tmp rfl (Rs.tmp rfl Rs.nil),_,Sub.none _,⟨_,_,rfl,fun _=>⟨r[i],rfl,(hjn _).2 ⟨List.getElem_mem hi,hpi hi⟩⟩,fun h=>by cases h⟩,rfl⟩
 ·refine Ev.gT ?_
  refine Wk.ret ⟨_,Rs.tmp rfl (Rs.tmp rfl Rs.nil),_,Sub.none _,⟨_,_,rfl,fun h=>(by cases h),fun _=>?_⟩,rfl⟩
  rintro ⟨c,hc⟩
  obtain ⟨k1,k2⟩:=(hjn c).1 hc
  obtain ⟨i,hi,rfl⟩:=List.getElem_of_mem k1
  exact hno i hi fun _=>k2
theorem pairs_ {Z:Zone} {bt:Nat} {t:Tbl} (h:TabR Z bt t):Pairs M Z (.func (.func 202) ⟨[.pointer (some ⟨bt,0,none⟩)]⟩ #[]) t.elems.length:=by
 intro yv A0 p Stop hy
 have hn:=h.ok.2.2.1
 refine Cz.fn (f:=Tryz.f202) Ev.cM rfl rfl rfl _ rfl ?_
 obtain ⟨nm,ve,va,vw,vs,us,h1,h2,h3,h4⟩:=h.rep
 have se:=h2.elems
 refine Ev.gT ?_
 refine Wk.loop (fun mm L Z' A'=>∃ a:Nat,a≤t.elems.length∧mm=t.elems.length - a∧A'=A0∧(∀ x,x < a→∀ b,b < t.elems.length→p x b)∧Kp L [(0,.pointer (some ⟨bt,0,none⟩)),(1,yv),(11,.int .i64 t.elems.length),(12,.int .i64 a)]) t.elems.length ⟨0,Nat.zero_le _,rfl,rfl,fun x hx=>by omega,Ev.kM⟩ ?_
 rintro mm L Z1 A' hz1 ⟨a,hal,rfl,hA,hpa,hk⟩
 subst A'
 refine Wk.kp hk ?_
 clear hk
 refine Ev.gT ?_
 refine Wk.cond rfl (fun hc=>?_) (fun hc=>?_)
 ·have ha:a < t.elems.length:=by simp at hc;omega
  have h1':=hz1 _ _ h1
  have se':=se.mono hz1
  refine Ev.gT ?_
  refine Wk.loop (fun mm L Z' A'=>∃ b:Nat,b≤t.elems.length∧mm=t.elems.length - b∧A'=A0∧(∀ x,x < b→p a x)∧Kp L [(0,.pointer (some ⟨bt,0,none⟩)),(1,yv),(4,.int .i64 a),(11,.int .i64 t.elems.length),(12,.int .i64 a),(20,.int .i64 t.elems.length),(21,.int .i64 b)]) t.elems.length ⟨0,Nat.zero_le _,rfl,rfl,fun x hx=>by omega,Ev.kM⟩ ?_
  rintro mm L Z2 A' hz2 ⟨b,hbl,rfl,hA,hpb,hk⟩
  subst A'
  refine Wk.kp hk ?_
  clear hk
  refine Ev.gT ?_
  refine Wk.cond rfl (fun hd=>?_) (fun hd=>?_)
  ·have hb:b < t.elems.length:=by simp at hd;omega
   refine Ev.gT ?_
   refine Wk.call rfl rfl (Spl.all _) (hy a b Z2 ha hb (hz1.trans hz2)) rfl rfl rfl ?_
   rintro v Z3 A' hz3 (⟨rfl,rfl,hpab⟩|⟨rfl,hst⟩)
   ·refine Ev.gT ?_
    exact Wk.inv ⟨_,by omega,b+1,by omega,rfl,List.append_nil _,nextP hpb hpab,Ev.kM⟩
   ·refine Ev.gT ?_
    exact Wk.ret ⟨_,Rs.nil,_,Sub.refl _,.inr (by rw [List.append_nil];exact hst)⟩
  ·refine Ev.gT ?_
   exact Wk.inv ⟨_,by omega,a+1,by omega,rfl,rfl,nextP hpa fun b hb=>hpb b (by simp at hd;omega),Ev.kM⟩
 ·refine Ev.gT ?_
  exact Wk.done ⟨_,Rs.nil,_,Sub.refl _,.inl ⟨rfl,fun x b hx hb=>hpa x (by simp at hc;omega) b hb⟩⟩
def brk (k:Int) (x y:Int):List Value:=[.int .u8 k,.int .i64 x,.int .i64 y]
theorem wrong_ {Z:Zone} {bt:Nat} {t:Tbl} (h:TabR Z bt t) :
  Cz M (.func (.func 213) #[] #[]) [.pointer (some ⟨bt,0,none⟩)] Z [] (fun v' Z' A'=>(∃ (k x y:Int) (f:Bool),v'=.tuple ⟨[.agg ⟨brk k x y⟩,.bool f]⟩∧(f=true↔(t.wr 0∨∃ a b,a < t.elems.length∧b < t.elems.length∧t.wr a∧¬ t.wr b∧t.Bl a b)))∧Z=Z'∧A'=[]):=by
 refine Cz.shrink ?_
 have hok:=h.ok
 obtain ⟨nm,ve,va,vw,vs,us,h1,h2,h3,h4⟩:=h.rep
 have sw:=h2.wrong
 have hw0:0 < t.wrong.length:=by rw [hok.2.2.2.2.1];exact hok.2.1
 have hwr:∀ a (ha:a < t.wrong.length),t.wr a↔t.wrong[a]=true:=fun a ha=>by rw [Tbl.wr,List.getElem?_eq_getElem ha];simp
 refine Cz.fn (f:=Tryz.f213) Ev.cM rfl rfl rfl _ rfl ?_
 repeat first|refine go ?_|with_reducible intro _
 refine Wk.cond rfl (fun hc=>?_) (fun hc=>?_)
 ·refine Ev.gT ?_
  refine Wk.ret ⟨_,Rs.cell rfl rfl Ev.hM rfl rfl (Rs.cell rfl rfl Ev.hM rfl rfl Rs.nil),_,Sub.none _,⟨_,_,_,_,rfl,?_⟩,rfl⟩
  simp only [true_iff]
  exact .inl ((hwr 0 hw0).2 hc)
 ·have hn0:¬ t.wr 0:=fun hh=>by rw [(hwr 0 hw0).1 hh] at hc;cases hc
  refine Ev.gT ?_
  refine Wk.rangePairs (nn:=t.elems.length) (fun a b=>t.wr a→t.Bl a b→t.wr b) (fun _ _ _=>rfl) rfl (pairs_ h) rfl (by simp) (fun a b Z1 l ha hb hz=>?_) (fun Z' hz hall=>?_)
  ·have haw:a < t.wrong.length:=by rw [hok.2.2.2.2.1];exact ha
   have hbw:b < t.wrong.length:=by rw [hok.2.2.2.2.1];exact hb
   have h1':=hz _ _ h1
   have sw':=sw.mono hz
   refine Ev.gT ?_
   refine Wk.done ⟨rfl,rfl,rfl,?_⟩
   repeat first|refine go ?_|with_reducible intro _
   refine Wk.caser 26 rfl (fun h1=>?_) (fun h1=>?_)
   ·have wa:=(hwr a haw).2 h1
    repeat first|refine go ?_|with_reducible intro _
    refine Wk.caser 37 rfl (fun h2=>?_) (fun h2=>?_)
    ·have wb:¬ t.wr b:=fun hh=>by rw [(hwr b hbw).1 hh] at h2;cases h2
     refine Ev.gT ?_
     refine Wk.call rfl rfl (Spl.none _) (isBelow (h.mono hz) a b ha hb) rfl rfl rfl ?_
     rintro v' Z' A' hz' ⟨⟨f,rfl,hf⟩,rfl,rfl⟩
     refine Ev.gT ?_
     refine Wk.cond rfl (fun hd=>?_) (fun hd=>?_)
     ·refine Ev.gT ?_
      refine Wk.ret (.inr ⟨by simp,_,Rem.head,post_ret ?_⟩)
      refine ⟨_,Rs.cell rfl rfl Ev.hM rfl rfl (Rs.cell rfl rfl Ev.hM rfl rfl Rs.nil),_,Sub.none _,⟨_,_,_,_,rfl,?_⟩,rfl⟩
      simp only [true_iff]
      exact .inr ⟨a,b,ha,hb,wa,wb,hf.1 hd⟩
     ·refine Ev.gT ?_
      exact Wk.done (.inl ⟨rfl,rfl,fun _ hbl=>absurd (hf.2 hbl) (by simp [hd])⟩)
    ·refine Ev.gT ?_
     exact Wk.done (.inl ⟨rfl,rfl,fun _ _=>(hwr b hbw).2 (by simpa using h2)⟩)
   ·refine Ev.gT ?_
    exact Wk.done (.inl ⟨rfl,rfl,fun hh=>absurd ((hwr a haw).1 hh) (by simp [h1])⟩)
  ·refine Ev.gT ?_
   refine Wk.ret ⟨_,Rs.cell rfl rfl Ev.hM rfl rfl (Rs.cell rfl rfl Ev.hM rfl rfl Rs.nil),_,Sub.none _,⟨_,_,_,_,rfl,?_⟩,rfl⟩
   simp only [Bool.false_eq_true,false_iff]
   rintro (hh|⟨a,b,ha,hb,wa,wb,hbl⟩)
   ·exact hn0 hh
   ·exact wb (hall a b ha hb wa hbl)
theorem brk1 {Z:Zone} {bt b1:Nat} {t:Tbl} (h:TabR Z bt t) (h1:Z b1=some (.cells [.pointer (some ⟨bt,0,none⟩)] true 0)) (a:Nat) (ha:a < t.elems.length) :
  Cz M (.func (.func 211) #[] ⟨[.pointer (some ⟨b1,0,none⟩)]⟩) [.int .i64 a] Z [] (fun v' Z' A'=>Bis v' (t.St a a)∧Z=Z'∧A'=[]):=by
 obtain ⟨nm,ve,va,vw,vs,us,h1',h2,h3,h4⟩:=h.rep
 obtain ⟨u,l,k1,k2,k3,k4⟩:=h4 a ha
 have hg:getCells us (a*1) 1=some [u]:=getCells_one (by rw [Nat.mul_one];exact k1)
 have hal:a < l.length:=by omega
 refine Cz.fn (f:=Tryz.f211) Ev.cM rfl rfl rfl _ rfl ?_
 repeat first|refine go ?_|with_reducible intro _
 refine Wk.ret ⟨_,Rs.tmp rfl Rs.nil,_,Sub.none _,Bis.of (by rw [←k4 a,List.getElem?_eq_getElem hal];simp),rfl,rfl⟩
theorem brk2 {Z:Zone} {bt b1:Nat} {t:Tbl} (h:TabR Z bt t) (h1:Z b1=some (.cells [.pointer (some ⟨bt,0,none⟩)] true 0)) (a:Nat) (ha:a < t.elems.length) :
  Cz M (.func (.func 212) #[] ⟨[.pointer (some ⟨b1,0,none⟩)]⟩) [.int .i64 a] Z [] (fun v' Z' A'=>Bis v' (¬ t.Bl 0 a)∧Z=Z'∧A'=[]):=by
 have h0:0 < t.elems.length:=h.ok.2.1
 refine Cz.fn (f:=Tryz.f212) Ev.cM rfl rfl rfl _ rfl ?_
 refine Ev.gT ?_
 refine Wk.call rfl rfl (Spl.none _) (isBelow h 0 a h0 ha) rfl rfl rfl ?_
 rintro v' Z' A' hz ⟨⟨f,rfl,hf⟩,rfl,rfl⟩
 refine Ev.gT ?_
 refine Wk.ret ⟨_,Rs.tmp rfl Rs.nil,_,Sub.none _,Bis.of (by rw [←hf];simp),rfl,rfl⟩
theorem broken_ {Z:Zone} {bt:Nat} {t:Tbl} (h:TabR Z bt t) :
  Cz M (.func (.func 180) #[] #[]) [.pointer (some ⟨bt,0,none⟩)] Z [] (fun v' Z' A'=>(∃ (k x y:Int) (f:Bool),v'=.tuple ⟨[.agg ⟨brk k x y⟩,.bool f]⟩∧(f=true↔¬ t.Lat))∧Z=Z'∧A'=[]):=by
 refine Cz.shrink ?_
 refine Cz.fn (f:=Tryz.f180) Ev.cM rfl rfl rfl _ rfl ?_
 repeat first|refine go ?_|with_reducible intro _
 refine Wk.freezer (Rem.tail (Rem.tail Rem.head)) fun Z1 e1 h1=>?_
 have h:=h.mono e1
 refine Wk.call rfl rfl (Spl.none _) (first_ (fun a=>t.St a a) h (fun a ha=>brk1 h h1 a ha)) rfl rfl rfl ?_
 rintro v' Z' A' hz ⟨⟨r,f,rfl,hf⟩,rfl,rfl⟩
 refine Ev.gT ?_
 refine Wk.cond rfl (fun hc=>?_) (fun hc=>?_)
 ·refine Ev.gT ?_
  refine Wk.ret ⟨_,Rs.cell rfl rfl Ev.hM rfl rfl (Rs.cell rfl rfl Ev.hM rfl rfl Rs.nil),_,Sub.none _,⟨_,_,_,_,rfl,?_⟩,rfl⟩
  simp only [true_iff]
  obtain ⟨a,ha,hst⟩:=hf.1 hc
  exact fun hl=>hl.1 a ha hst
 have p1:∀ a,a < t.elems.length→¬ t.St a a:=fun a ha hst=>by rw [hf.2 ⟨a,ha,hst⟩] at hc;cases hc
 clear hf hc
 refine Ev.gT ?_
 refine Wk.call rfl rfl (Spl.none _) (first_ (fun a=>¬ t.Bl 0 a) h (fun a ha=>brk2 h h1 a ha)) rfl rfl rfl ?_
 rintro v' Z' A' hz ⟨⟨r,f,rfl,hf⟩,rfl,rfl⟩
 refine Ev.gT ?_
 refine Wk.cond rfl (fun hc=>?_) (fun hc=>?_)
 ·refine Ev.gT ?_
  refine Wk.ret ⟨_,Rs.cell rfl rfl Ev.hM rfl rfl (Rs.cell rfl rfl Ev.hM rfl rfl Rs.nil),_,Sub.none _,⟨_,_,_,_,rfl,?_⟩,rfl⟩
  simp only [true_iff]
  obtain ⟨a,ha,hbl⟩:=hf.1 hc
  exact fun hl=>hbl (hl.2.1 a ha)
 have p2:∀ a,a < t.elems.length→t.Bl 0 a:=fun a ha=>Classical.byContradiction fun hbl=>by rw [hf.2 ⟨a,ha,hbl⟩] at hc;cases hc
 clear hf hc
 refine Ev.gT ?_
 refine Wk.rangePairs (nn:=t.elems.length) (fun a b=>a < b→∃ c,t.Jn a b c) (fun _ _ _=>rfl) rfl (pairs_ h) rfl (by simp) (fun a b Z2 l ha hb hz=>?_) (fun Z2 hz hall=>?_)
 ·have h':=h.mono hz
  have h1':=hz _ _ h1
  refine Ev.gT ?_
  refine Wk.done ⟨rfl,rfl,rfl,?_⟩
  refine Ev.gT ?_
  refine Wk.call rfl rfl (Spl.none _) (join_ h' a b ha hb) rfl rfl rfl ?_
  rintro v' Z' A' hz' ⟨⟨x,f,rfl,hf1,hf2⟩,rfl,rfl⟩
  refine Ev.gT ?_
  refine Wk.caser 42 rfl (fun hc=>?_) (fun hc=>?_)
  ·refine Ev.gT ?_
   obtain ⟨c,_,hj⟩:=hf1 hc
   exact Wk.done (.inl ⟨rfl,rfl,fun _=>⟨c,hj⟩⟩)
  ·refine Ev.gT ?_
   refine Wk.cond rfl (fun hd=>?_) (fun hd=>?_)
   ·refine Ev.gT ?_
    exact Wk.done (.inl ⟨rfl,rfl,fun hab=>by simp at hd;omega⟩)
   ·have hab:a < b:=by simp at hd;omega
    have nl:¬ t.Lat:=fun hl=>hf2 hc (hl.2.2.1 a b hab hb)
    refine Ev.gT ?_
    refine Wk.bs rfl rfl rfl rfl rfl rfl rfl fun b50=>?_
    first|refine Wk.freezer Rem.head fun Z3 e3 h50=>?_|refine Wk.freeze Rem.head fun Z3 e3 h50=>?_
    have s50:Sl Z3 1 (.slice (some ⟨b50,0,none⟩) 2 2) [a,b].length (nats [a,b]):=Sl.ofAll h50 rfl (.inl rfl)
    refine Wk.call rfl rfl (Spl.none _) (bounds_ (h'.mono e3) s50 (by simp) (by simp [ha,hb])) rfl rfl rfl ?_
    rintro v51 Z4 A' e4 ⟨r,hr,rfl⟩
    refine Ev.gT ?_
    refine Wk.cond rfl (fun hd=>?_) (fun hd=>?_)
    ·refine Ev.gT ?_
     refine Wk.ret (.inr ⟨by simp,_,Rem.tail Rem.head,post_ret ?_⟩)
     refine ⟨_,Rs.cell rfl rfl Ev.hM rfl rfl (Rs.cell rfl rfl Ev.hM rfl rfl Rs.nil),_,Sub.none _,⟨_,_,_,_,rfl,by simp [nl]⟩,rfl⟩
    ·refine Ev.gT ?_
     refine Wk.ret (.inr ⟨by simp,_,Rem.tail Rem.head,post_ret ?_⟩)
     refine ⟨_,Rs.cell rfl rfl Ev.hM rfl rfl (Rs.cell rfl rfl Ev.hM rfl rfl Rs.nil),_,Sub.none _,⟨_,_,_,_,rfl,by simp [nl]⟩,rfl⟩
 ·have h':=h.mono hz
  have h1':=hz _ _ h1
  refine Ev.gT ?_
  refine Wk.call rfl rfl (Spl.none _) (wrong_ h') rfl rfl rfl ?_
  rintro v' Z' A' hz' ⟨⟨k,x,y,f,rfl,hf⟩,rfl,rfl⟩
  refine Ev.gT ?_
  refine Wk.ret ⟨_,Rs.cell rfl rfl Ev.hM rfl rfl (Rs.cell rfl rfl Ev.hM rfl rfl Rs.nil),_,Sub.none _,⟨_,_,_,_,rfl,?_⟩,rfl⟩
  rw [hf]
  constructor
  ·rintro (hh|⟨a,b,ha,hb,wa,wb,hbl⟩) hl
   ·exact hl.2.2.2.1 hh
   ·exact wb (hl.2.2.2.2 a b ha hb wa hbl)
  ·intro nl
   refine Classical.byContradiction fun hh=>nl ⟨p1,p2,fun a b hab hb=>hall a b Ev.wM hb hab,fun hw=>hh (.inl hw),fun a b ha hb wa hbl=>?_⟩
   exact Classical.byContradiction fun wb=>hh (.inr ⟨a,b,ha,hb,wa,wb,hbl⟩)
end Go.Proofs.J
namespace Go.Proofs.J
open Go.Ev Go
theorem open_ {Z:Zone} {nm:ByteArray} {ve va vw:Value} {t:Tbl} (h:TbR Z nm ve va vw t) (ht:t.Sm) :
  Cz M (.func (.func 179) #[] #[]) [.agg ⟨[.string nm,ve,va,vw]⟩] Z [] (fun v' Z' A'=>((t.Ok∧∃ bt,v'=.tuple ⟨[.pointer (some ⟨bt,0,none⟩),.int .i64 0]⟩∧TabR Z' bt t)∨(¬ t.Ok∧v'=.tuple ⟨[.pointer none,.int .i64 4]⟩))∧A'=[]):=by
 have se:=h.elems
 obtain ⟨ae,ce,rfl⟩:=h.elems.form
 obtain ⟨us0,sa,_⟩:=h.above
 obtain ⟨aa,ca,rfl⟩:=sa.form
 obtain ⟨aw,cw,rfl⟩:=h.wrong.form
 refine Cz.fn (f:=Tryz.f179) Ev.cM rfl rfl rfl _ rfl ?_
 repeat first|refine go ?_|with_reducible intro _
 refine Wk.call rfl rfl (Spl.none _) (ChkO h ht) rfl rfl rfl ?_
 rintro v8 Z' A' hz ⟨hE,rfl,rfl⟩
 rcases hE with ⟨ok,rfl⟩|⟨nok,rfl⟩
 ·repeat first|refine go ?_|with_reducible intro _
  rename_i bt
  have hn:=ok.2.2.1
  refine Wk.olNil 1 ?_
  refine Wk.loop (fun mm L Z' A'=>∃ (j:Nat) (v4:Value) (us:List Value),j≤t.elems.length∧mm=t.elems.length - j∧us.length=j∧(∀ a,a < j→∃ (u:Value) (l:List Bool),us[a]?=some u∧Sl Z' 1 u t.elems.length (l.map Value.bool)∧l.length=t.elems.length∧∀ c:Nat,l[c]?=some true↔t.St a c)∧Sub A' [ol 1 v4 j us,pt bt (.cells [.string nm,.slice ae t.elems.length ce,.slice aa t.above.length ca,.slice aw t.wrong.length cw,v4] true 0)]∧Kp L [(5,.pointer (some ⟨bt,0,none⟩)),(17,.int .i64 t.elems.length),(18,.int .i64 j)]) t.elems.length ⟨0,_,[],Nat.zero_le _,rfl,rfl,fun a h=>by omega,Ev.sM,Ev.kM⟩ ?_
  rintro mm L Z1 A' hz1 ⟨j,v4,us,hj,rfl,hul,hus,hsub,hk⟩
  refine Wk.drop hsub ?_
  refine Wk.kp hk ?_
  clear hk hsub
  have h1:=h.mono hz1
  refine Ev.gT ?_
  refine Wk.cond rfl (fun hc=>?_) (fun hc=>?_)
  ·have hlt:j < t.elems.length:=by simp at hc;omega
   have hja:j < t.above.length:=by rw [ok.2.2.2.1];exact hlt
   first|refine Wk.knowr Ev.rM (fun s h=>ol.form (v:=v4) h) ?_|refine Wk.know Ev.rM (fun s h=>ol.form (v:=v4) h) ?_
   rintro ⟨a4,c4,rfl⟩
   refine Ev.gT ?_
   refine Wk.drawr (ms:=[0,0,2,6,14,0,0,96,224,510,1023,2047,4095]) (l:=[0,1,2,3,4,5,6,7,8,9,10,11,12]) Ev.cM Ev.cM Ev.cM rfl ?_
   refine Ev.gT ?_
   refine Wk.callD rfl rfl (.r (.l .nil)) (from_ h1 ht ok j hja) rfl rfl fun v28 Z2 A' hz2 hq=>?_
   obtain ⟨rfl,l,hll,hl,rfl⟩:=hq
   refine ⟨?_,?_⟩
   ·exact Ev.pM0
   first|refine Wk.knowr Ev.rM (fun s h=>ol.form (v:=v28) h) ?_|refine Wk.know Ev.rM (fun s h=>ol.form (v:=v28) h) ?_
   rintro ⟨a28,c28,rfl⟩
   first|apply Wk.olFreezer (v:=.slice a28 t.elems.length c28)|apply Wk.olFreeze (v:=.slice a28 t.elems.length c28)
   case p=>repeat (first|exact Rem.head|apply Rem.tail)
   intro Z3 e3 s28
   refine Ev.gT ?_
   refine Wk.bs rfl rfl rfl rfl rfl rfl rfl fun b29=>?_
   refine Wk.append rfl rfl rfl rfl rfl rfl rfl rfl Ev.rM (Src.lit Ev.hM rfl) rfl rfl rfl Ev.wM Ev.wM Ev.cM rfl rfl fun v30=>?_
   first|refine Wk.knowr Ev.rM (fun s h=>ol.form (v:=v30) h) ?_|refine Wk.know Ev.rM (fun s h=>ol.form (v:=v30) h) ?_
   rintro ⟨a30,c30,rfl⟩
   refine Ev.gT ?_
   refine Wk.inv ⟨_,by omega,j+1,_,us++[.slice a28 t.elems.length c28],by omega,rfl,by simp [hul],fun a ha=>?_,Ev.sM,Ev.kM⟩
   by_cases e:a=j
   ·subst e
    exact ⟨_,l,by rw [←hul];simp,s28,hll,hl⟩
   ·obtain ⟨u,l',k1,k2,k3⟩:=hus a Ev.wM
    exact ⟨u,l',by rw [List.getElem?_append_left Ev.wM];exact k1,k2.mono e3,k3⟩
  ·have hjn:j=t.elems.length:=by simp at hc;omega
   subst hjn
   first|apply Wk.olFreezer (v:=v4)|apply Wk.olFreeze (v:=v4)
   case p=>repeat (first|exact Rem.head|apply Rem.tail)
   intro Z2 e2 s4
   first|refine Wk.freezer Rem.head fun Z3 e3 hbt=>?_|refine Wk.freeze Rem.head fun Z3 e3 hbt=>?_
   refine Ev.gT ?_
   refine Wk.ret ⟨_,Rs.tmp rfl (Rs.tmp rfl Rs.nil),_,Sub.none _,.inl ⟨ok,_,rfl,ok,ht,?_⟩,rfl⟩
   exact ⟨nm,_,_,_,_,us,hbt,h1.mono (e2.trans e3),s4.mono e3,fun a ha=>let ⟨u,l,k1,k2,k3⟩:=hus a ha;⟨u,l,k1,k2.mono (e2.trans e3),k3⟩⟩
 ·refine Ev.gT ?_
  exact Wk.ret ⟨_,Rs.tmp rfl (Rs.tmp rfl Rs.nil),_,Sub.none _,.inr ⟨nok,rfl⟩,rfl⟩
end Go.Proofs.J
namespace Go.Proofs.J
open Go.Ev Go
def ProveR (t:Tbl) (v:Value):Prop:=∃ k x y e:Int,v=.tuple ⟨[.agg ⟨brk k x y⟩,.int .i64 e]⟩∧(e=0↔t.Ok∧t.Lat)
theorem Prove_ {Z:Zone} {nm:ByteArray} {ve va vw:Value} {t:Tbl} (h:TbR Z nm ve va vw t) (ht:t.Sm) :
  Cz M (.func (.func 130) #[] #[]) [.agg ⟨[.string nm,ve,va,vw]⟩] Z [] (fun v' Z' A'=>ProveR t v'∧Z=Z'∧A'=[]):=by
 refine Cz.shrink ?_
 refine Cz.fn (f:=Tryz.f130) Ev.cM rfl rfl rfl _ rfl ?_
 repeat first|refine go ?_|with_reducible intro _
 refine Wk.call rfl rfl (Spl.none _) (open_ h ht) rfl rfl rfl ?_
 rintro v' Z1 A' hz ⟨hop,rfl⟩
 rcases hop with ⟨ok,bt,rfl,hb⟩|⟨nok,rfl⟩
 ·refine Ev.gT ?_
  refine Wk.call rfl rfl (Spl.none _) (broken_ hb) rfl rfl rfl ?_
  rintro v' Z' A' hz' ⟨⟨k,x,y,f,rfl,hf⟩,rfl,rfl⟩
  repeat first|refine go ?_|with_reducible intro _
  refine Wk.cond rfl (fun hc=>?_) (fun hc=>?_)
  ·refine Ev.gT ?_
   refine Wk.ret ⟨_,Rs.cell rfl rfl Ev.hM rfl rfl (Rs.tmp rfl Rs.nil),_,Sub.none _,⟨_,_,_,_,rfl,?_⟩,rfl⟩
   have:=hf.1 hc
   simp [this]
  ·have hl:t.Lat:=Classical.byContradiction fun hn=>by rw [hf.2 hn] at hc;cases hc
   refine Ev.gT ?_
   refine Wk.ret ⟨_,Rs.cell rfl rfl Ev.hM rfl rfl (Rs.tmp rfl Rs.nil),_,Sub.none _,⟨_,_,_,_,rfl,?_⟩,rfl⟩
   simp [ok,hl]
 ·refine Ev.gT ?_
  refine Wk.ret ⟨_,Rs.cell rfl rfl Ev.hM rfl rfl (Rs.tmp rfl Rs.nil),_,Sub.none _,⟨_,_,_,_,rfl,?_⟩,rfl⟩
  simp [nok]
theorem levels_:∀ (d:Nat) {s:Shp} {Z:Zone} {cs:List Value},s.levels≤d→d≤1000000→Shp.Sm d s→ShR Z s cs →
  Cz M (.func (.func 133) #[] #[]) [.agg ⟨cs⟩] Z [] (fun v' Z' A'=>v'=.int .i64 (s.levels:Nat)∧Z=Z'∧A'=[])
 | 0,s,Z,cs,hd,_,_,_=>by have:=s.levels_pos;omega
 | d+1,s,Z,cs,hd,hd1,hsm,h=>by
  obtain ⟨a,c,us,rfl,hs,hL⟩:=h.form
  have hlv:s.levels=levelsL s.kids+1:=by cases s;simp only [Shp.levels,Shp.kids]
  have hkl:=hsm.2.1
  refine Cz.fn (f:=Tryz.f133) Ev.cM rfl rfl rfl _ rfl ?_
  repeat first|refine go ?_|with_reducible intro _
  refine Wk.loop (fun mm L Z' A'=>∃ j:Nat,j≤s.kids.length∧mm=s.kids.length - j∧Z=Z'∧Sub A' []∧(True)∧Kp L [(2,.int .i64 (levelsL (s.kids.take j):Nat)),(6,.slice a s.kids.length c),(7,.int .i64 s.kids.length),(8,.int .i64 j)]) (s.kids.length) ⟨0,Nat.zero_le _,rfl,rfl,Ev.sM,trivial,Ev.kM⟩ ?_
  rintro mm L Z' A' - ⟨j,hjj,rfl,rfl,hsub,invj,hk⟩
  refine Wk.drop hsub ?_
  refine Wk.kp hk ?_
  clear hk hsub
  refine Ev.gT ?_
  refine Wk.cond rfl (fun hc=>?_) (fun hc=>?_)
  ·have hlt:j < s.kids.length:=by simp at hc;omega
   obtain ⟨k,n,a1,m1,c1,g1,r1⟩:=hL.get j hlt
   have hkd:=s.kid_levels hd hlt
   repeat first|refine go ?_|with_reducible intro _
   refine Wk.call rfl rfl (Spl.none _) (levels_ d hkd Ev.wM (hsm.2.2 _ (List.getElem_mem hlt)) r1) rfl rfl rfl ?_
   rintro v' Z' A' hz ⟨rfl,rfl,rfl⟩
   refine Ev.gT ?_
   refine Wk.inv ⟨_,by omega,j+1,hlt,rfl,rfl,Ev.sM,trivial,?_,rfl,rfl,rfl,trivial⟩
   refine eqI ?_
   rw [levelsL_take hlt]
   split<;>omega
  ·have hj:j=s.kids.length:=by simp at hc;omega
   subst hj
   have e:s.kids.take s.kids.length=s.kids:=List.take_length
   rw [e]
   refine Ev.gT ?_
   refine Wk.ret ⟨_,Rs.tmp rfl Rs.nil,_,Sub.none _,by rw [hlv];rfl,rfl,rfl⟩
theorem kids_ {Z:Zone}:Cz M (.func (.func 181) #[] #[]) [] Z [] (fun v' Z' A'=>Z=Z'∧∃ b,v'=.map (some b)∧A'=[pt b (.map (kidE.map fun p=>(.int .u8 p.1,p.2)))]):=by
 refine Cz.fn (f:=Tryz.f181) Ev.cM rfl rfl rfl _ rfl ?_
 refine Ev.gT ?_
 refine Wk.mkm rfl rfl rfl fun b=>?_
 repeat (refine Wk.insert rfl rfl rfl rfl Ev.cM Ev.cM Upd.head rfl rfl ?_)
 refine Ev.gT ?_
 refine Wk.ret ⟨_,Rs.tmp rfl Rs.nil,_,Sub.refl _,rfl,b,rfl,rfl⟩
theorem shp1 {Z:Zone} {d:Nat} {s:Shp} {cs:List Value} (i:Int) (ih:∀ {Z:Zone} {cs:List Value},ShR Z s cs→Cz M (.func (.func 135) #[] #[]) [.agg ⟨cs⟩] Z [] (fun v' Z' A'=>Bis v' s.Ok∧Z=Z'∧A'=[])) (h:ShR Z s cs) :
  Cz M (.func (.func 183) #[] #[]) [.int .i64 i,.agg ⟨cs⟩] Z [] (fun v' Z' A'=>Bis v' s.Ok∧Z=Z'∧A'=[]):=by
 obtain ⟨a,c,us,rfl,hs,hL⟩:=h.form
 refine Cz.fn (f:=Tryz.f183) Ev.cM rfl rfl rfl _ rfl ?_
 repeat first|refine go ?_|with_reducible intro _
 refine Wk.call rfl rfl (Spl.none _) (ih h) rfl rfl rfl ?_
 rintro v' Z' A' hz ⟨hb,rfl,rfl⟩
 refine Ev.gT ?_
 refine Wk.ret ⟨_,Rs.tmp rfl Rs.nil,_,Sub.none _,hb,rfl,rfl⟩
theorem isShape_:∀ (d:Nat) {s:Shp} {Z:Zone} {cs:List Value},s.levels≤d→d≤1000000→Shp.Sm d s→ShR Z s cs →
  Cz M (.func (.func 135) #[] #[]) [.agg ⟨cs⟩] Z [] (fun v' Z' A'=>Bis v' s.Ok∧Z=Z'∧A'=[])
 | 0,s,Z,cs,hd,_,_,_=>by have:=s.levels_pos;omega
 | d+1,s,Z,cs,hd0,hd1,hsm,h=>by
  obtain ⟨a,c,us,rfl,hs,hL⟩:=h.form
  have hnm:=hsm.1
  have hkl:=hsm.2.1
  have hOk:s.Ok↔kidsOf s.kind=some s.kids.length∧(s.kind=5→IsTableName s.name)∧(s.kind≠5→s.name.size=0)∧∀ k∈s.kids,k.Ok:=by
   cases s;simp only [Shp.Ok,Shp.kind,Shp.name,Shp.kids,ShpOkL_iff]
  refine Cz.fn (f:=Tryz.f135) Ev.cM rfl rfl rfl _ rfl ?_
  repeat first|refine go ?_|with_reducible intro _
  refine Wk.drawr (ms:=[0,0,2,7,15,31,31,63,255]) (l:=[1,2,0,3,4,5,6,7,8]) Ev.cM Ev.cM Ev.cM rfl ?_
  refine Ev.gT ?_
  refine Wk.callD rfl rfl (Spl.none _) kids_ rfl rfl fun v7 Z1 A' hz hq=>?_
  obtain ⟨rfl,b7,rfl,rfl⟩:=hq
  refine ⟨?_,?_⟩
  ·exact Ev.pM0
  have hkf:=keyFind_int (T:=M.T) (kt:=5) (q:=.u8) rfl s.kind kidE 0
  rcases kid_found s.kind with ⟨m,hk,hf⟩|⟨hk,hf⟩
  ·rw [hf] at hkf
   refine Wk.lookup rfl rfl rfl rfl Ev.hM rfl hkf rfl rfl rfl rfl ?_
   refine Ev.gT ?_
   refine Wk.caser 25 rfl (fun hc=>?_) (fun hc=>?_)
   ·refine Ev.gT ?_
    refine Wk.ret ⟨_,Rs.tmp rfl Rs.nil,_,Sub.none _,Bis.of (by rw [hOk,hk];simp at hc ⊢;omega),rfl,rfl⟩
   have hm:m=s.kids.length:=by simp at hc;omega
   subst hm
   refine Wk.caser 5 rfl (fun h5=>?_) (fun h5=>?_)
   ·have h5':s.kind=5:=by simpa using h5
    refine Ev.gT ?_
    refine Wk.call rfl rfl (Spl.none _) (isTable s.name hnm) rfl rfl rfl ?_
    rintro v' Z' A' hz ⟨⟨b,rfl,hb⟩,rfl,rfl⟩
    refine Ev.gT ?_
    refine Wk.caser 34 rfl (fun hd=>?_) (fun hd=>?_)
    ·refine Ev.gT ?_
     refine Wk.ret ⟨_,Rs.tmp rfl Rs.nil,_,Sub.none _,Bis.of (by simp at hd;simp only [Bool.false_eq_true,false_iff];intro ok;rw [hb.2 ((hOk.1 ok).2.1 h5')] at hd;cases hd),rfl,rfl⟩
    ·have hT:IsTableName s.name:=hb.1 (by simpa using hd)
     refine Ev.gT ?_
     obtain ⟨cs,hcs⟩:=hL.rws
     refine Wk.call rfl rfl (Spl.none _) (allShp (cs:=cs) (fun i=>∃ h:i < s.kids.length,s.kids[i].Ok) hs (fun i hi=>⟨(hcs i hi).1,(hcs i hi).2.1⟩) hkl (fun i hi=>(shp1 (d:=d) i (fun h=>isShape_ d (s.kid_levels hd0 hi) Ev.wM (hsm.2.2 _ (List.getElem_mem hi)) h) (hcs i hi).2.2).mono fun v' Z' A' _ q=>⟨q.1.imp ⟨fun h=>⟨hi,h⟩,fun ⟨_,h⟩=>h⟩,q.2⟩)) rfl rfl rfl ?_
     rintro v' Z' A' hz ⟨hb2,rfl,rfl⟩
     refine Ev.gT ?_
     refine Wk.ret ⟨_,Rs.tmp rfl Rs.nil,_,Sub.none _,hb2.imp ?_,rfl,rfl⟩
     rw [hOk]
     constructor
     ·intro h
      refine ⟨hk,fun _=>hT,fun h=>absurd h5' h,fun k hk=>?_⟩
      obtain ⟨i,hi,rfl⟩:=List.getElem_of_mem hk
      exact (h i hi).2
     ·rintro ⟨_,_,_,h⟩ i hi
      exact ⟨hi,h _ (List.getElem_mem hi)⟩
   ·have h5':s.kind≠5:=by simpa using h5
    refine Ev.gT ?_
    refine Wk.cond rfl (fun hd=>?_) (fun hd=>?_)
    ·refine Ev.gT ?_
     refine Wk.ret ⟨_,Rs.tmp rfl Rs.nil,_,Sub.none _,Bis.of (by simp only [Bool.false_eq_true,false_iff];intro ok;have:=size0.1 ((hOk.1 ok).2.2.1 h5');rw [this,empty_eq] at hd;cases hd),rfl,rfl⟩
    ·have hN:s.name.size=0:=size0.2 (strEq.1 (by simpa using hd))
     refine Ev.gT ?_
     obtain ⟨cs,hcs⟩:=hL.rws
     refine Wk.call rfl rfl (Spl.none _) (allShp (cs:=cs) (fun i=>∃ h:i < s.kids.length,s.kids[i].Ok) hs (fun i hi=>⟨(hcs i hi).1,(hcs i hi).2.1⟩) hkl (fun i hi=>(shp1 (d:=d) i (fun h=>isShape_ d (s.kid_levels hd0 hi) Ev.wM (hsm.2.2 _ (List.getElem_mem hi)) h) (hcs i hi).2.2).mono fun v' Z' A' _ q=>⟨q.1.imp ⟨fun h=>⟨hi,h⟩,fun ⟨_,h⟩=>h⟩,q.2⟩)) rfl rfl rfl ?_
     rintro v' Z' A' hz ⟨hb2,rfl,rfl⟩
     refine Ev.gT ?_
     refine Wk.ret ⟨_,Rs.tmp rfl Rs.nil,_,Sub.none _,hb2.imp ?_,rfl,rfl⟩
     rw [hOk]
     constructor
     ·intro h
      refine ⟨hk,fun h=>absurd h h5',fun _=>hN,fun k hk=>?_⟩
      obtain ⟨i,hi,rfl⟩:=List.getElem_of_mem hk
      exact (h i hi).2
     ·rintro ⟨_,_,_,h⟩ i hi
      exact ⟨hi,h _ (List.getElem_mem hi)⟩
  ·rw [hf] at hkf
   refine Wk.lookup rfl rfl rfl rfl Ev.hM rfl hkf rfl rfl rfl rfl ?_
   refine Ev.gT ?_
   refine Wk.ret ⟨_,Rs.tmp rfl Rs.nil,_,Sub.none _,Bis.of (by rw [hOk,hk];simp),rfl,rfl⟩
end Go.Proofs.J
namespace Go.Proofs.J
open Go.Ev Go
def Tells (Z:Zone) (fv:Value) (p:ByteArray→Prop):Prop:=∀ Z1,Ext Z Z1→∀ x:ByteArray,x.size≤1000000→Cz M fv [.string x] Z1 [] (fun v' Z' A'=>Bis v' (p x)∧Z1=Z'∧A'=[])
mutual
def Shp.All (p:ByteArray→Prop):Shp→Prop
 | .mk k n l=>(k=5→p n)∧ShpAllL p l
def ShpAllL (p:ByteArray→Prop):List Shp→Prop
 | []=>True
 | s::r=>s.All p∧ShpAllL p r
end
theorem ShpAllL_iff {p:ByteArray→Prop}:∀ {l:List Shp},ShpAllL p l↔∀ s∈l,s.All p
 | []=>by simp [ShpAllL]
 | s::r=>by simp [ShpAllL,ShpAllL_iff (l:=r)]
theorem Shp.all_iff {p:ByteArray→Prop} {s:Shp}:s.All p↔(s.kind=5→p s.name)∧∀ k∈s.kids,k.All p:=by
 cases s;simp only [Shp.All,Shp.kind,Shp.name,Shp.kids,ShpAllL_iff]
mutual
theorem Shp.named_all {ts:List Tbl}:∀ {s:Shp},s.Named ts↔s.All (fun n=>∃ t∈ts,t.name=n)
 | .mk k n l=>by simp only [Shp.Named,Shp.All,ShpNamedL_all (l:=l)]
theorem ShpNamedL_all {ts:List Tbl}:∀ {l:List Shp},ShpNamedL ts l↔ShpAllL (fun n=>∃ t∈ts,t.name=n) l
 | []=>by simp only [ShpNamedL,ShpAllL]
 | s::r=>by simp only [ShpNamedL,ShpAllL,Shp.named_all (s:=s),ShpNamedL_all (l:=r)]
end
theorem Tells.mono {Z Z':Zone} {fv:Value} {p:ByteArray→Prop} (e:Ext Z Z') (h:Tells Z fv p):Tells Z' fv p:=fun Z1 e1=>h Z1 (e.trans e1)
theorem names1 {Z:Zone} {b3:Nat} {fv:Value} {p:ByteArray→Prop} {s:Shp} {cs:List Value} (i:Int) (h3:Z b3=some (.cells [fv] true 0))
  (ih:∀ {Z1:Zone} {cs:List Value},Ext Z Z1→ShR Z1 s cs→Cz M (.func (.func 136) #[] #[]) [.agg ⟨cs⟩,fv] Z1 [] (fun v' Z' A'=>Bis v' (s.All p)∧Z1=Z'∧A'=[])) (h:ShR Z s cs) :
  Cz M (.func (.func 184) #[] ⟨[.pointer (some ⟨b3,0,none⟩)]⟩) [.int .i64 i,.agg ⟨cs⟩] Z [] (fun v' Z' A'=>Bis v' (s.All p)∧Z=Z'∧A'=[]):=by
 obtain ⟨a,c,us,rfl,hs,hL⟩:=h.form
 refine Cz.fn (f:=Tryz.f184) Ev.cM rfl rfl rfl _ rfl ?_
 repeat first|refine go ?_|with_reducible intro _
 refine Wk.call rfl rfl (Spl.none _) (ih (Ext.refl _) h) rfl rfl rfl ?_
 rintro v' Z' A' hz ⟨hb,rfl,rfl⟩
 refine Ev.gT ?_
 refine Wk.ret ⟨_,Rs.tmp rfl Rs.nil,_,Sub.none _,hb,rfl,rfl⟩
theorem names_ {p:ByteArray→Prop}:∀ (d:Nat) {s:Shp} {Z:Zone} {cs:List Value} {fv:Value},s.levels≤d→d≤1000000→Shp.Sm d s→ShR Z s cs→cellsL fv=[fv]→Tells Z fv p →
  Cz M (.func (.func 136) #[] #[]) [.agg ⟨cs⟩,fv] Z [] (fun v' Z' A'=>Bis v' (s.All p)∧Z=Z'∧A'=[])
 | 0,s,Z,cs,fv,hd,_,_,_,_,_=>by have:=s.levels_pos;omega
 | d+1,s,Z,cs,fv,hd0,hd1,hsm,h,hfv,ht=>by
  refine Cz.shrink ?_
  obtain ⟨a,c,us,rfl,hs,hL⟩:=h.form
  have hnm:=hsm.1
  have hkl:=hsm.2.1
  have hAll:=Shp.all_iff (p:=p) (s:=s)
  refine Cz.fn (f:=Tryz.f136) Ev.cM rfl rfl rfl _ rfl ?_
  repeat first|refine go ?_|with_reducible intro _
  refine Wk.boxS rfl rfl rfl hfv fun b3=>?_
  refine Ev.gT ?_
  refine Wk.freezer Rem.head fun Z1 e1 h3=>?_
  have h1:=h.mono e1
  obtain ⟨cs,hcs⟩:=(ShRL.mono e1 hL).rws
  have hs1:=hs.mono e1
  have hcl:=fun i (hi:i < s.kids.length)=>(names1 (Z:=Z1) i h3 (fun e h=>names_ d (s.kid_levels hd0 hi) Ev.wM (hsm.2.2 _ (List.getElem_mem hi)) h hfv (ht.mono (e1.trans e))) (hcs i hi).2.2).mono (R:=fun v' Z' A'=>Bis v' (∃ h:i < s.kids.length,s.kids[i].All p)∧Z1=Z'∧A'=[]) fun v' Z' A' _ q=>⟨q.1.imp ⟨fun h=>⟨hi,h⟩,fun ⟨_,h⟩=>h⟩,q.2⟩
  have hkk:(∀ i,i < s.kids.length→∃ h:i < s.kids.length,s.kids[i].All p)↔∀ k∈s.kids,k.All p:=by
   constructor
   ·intro h k hk
    obtain ⟨i,hi,rfl⟩:=List.getElem_of_mem hk
    exact (h i hi).2
   ·intro h i hi
    exact ⟨hi,h _ (List.getElem_mem hi)⟩
  refine Wk.caser 8 rfl (fun hc=>?_) (fun hc=>?_)
  ·have h5:s.kind=5:=by simpa using hc
   refine Ev.gT ?_
   refine Wk.call rfl rfl (Spl.none _) (ht Z1 e1 s.name hnm) rfl rfl rfl ?_
   rintro v' Z' A' hz ⟨⟨b,rfl,hb⟩,rfl,rfl⟩
   refine Ev.gT ?_
   refine Wk.cond rfl (fun hd=>?_) (fun hd=>?_)
   ·refine Ev.gT ?_
    refine Wk.ret ⟨_,Rs.tmp rfl Rs.nil,_,Sub.none _,Bis.of ?_,rfl⟩
    simp only [Bool.false_eq_true,false_iff]
    intro ha
    rw [hb.2 ((hAll.1 ha).1 h5)] at hd;cases hd
   ·have hp:p s.name:=hb.1 (by simpa using hd)
    refine Ev.gT ?_
    refine Wk.call rfl rfl (Spl.none _) (allShp (cs:=cs) _ hs1 (fun i hi=>⟨(hcs i hi).1,(hcs i hi).2.1⟩) hkl hcl) rfl rfl rfl ?_
    rintro v' Z' A' hz ⟨hb2,rfl,rfl⟩
    refine Ev.gT ?_
    refine Wk.ret ⟨_,Rs.tmp rfl Rs.nil,_,Sub.none _,hb2.imp ?_,rfl⟩
    rw [hkk,hAll]
    exact ⟨fun h=>⟨fun _=>hp,h⟩,fun h=>h.2⟩
  ·have h5:s.kind≠5:=by simpa using hc
   refine Ev.gT ?_
   refine Wk.call rfl rfl (Spl.none _) (allShp (cs:=cs) _ hs1 (fun i hi=>⟨(hcs i hi).1,(hcs i hi).2.1⟩) hkl hcl) rfl rfl rfl ?_
   rintro v' Z' A' hz ⟨hb2,rfl,rfl⟩
   refine Ev.gT ?_
   refine Wk.ret ⟨_,Rs.tmp rfl Rs.nil,_,Sub.none _,hb2.imp ?_,rfl⟩
   rw [hkk,hAll]
   exact ⟨fun h=>⟨fun h=>absurd h h5,h⟩,fun h=>h.2⟩
theorem cs1 {Z:Zone} {nm:ByteArray} {ve va vw:Value} {t:Tbl} (i:Int) (h:TbR Z nm ve va vw t) (ht:t.Sm) (hf:okCells [.string nm,ve,va,vw]=true) :
  Cz M (.func (.func 124) #[] #[]) [.int .i64 i,.agg ⟨[.string nm,ve,va,vw]⟩] Z [] (fun v' Z' A'=>Bis v' t.Ok∧Z=Z'∧A'=[]):=by
 refine Cz.fn (f:=Tryz.f124) Ev.cM rfl rfl rfl _ rfl ?_
 repeat first|refine go ?_|with_reducible intro _
 refine Wk.call rfl rfl (Spl.none _) (ChkO h ht) rfl rfl rfl ?_
 rintro v' Z' A' hz ⟨hE,rfl,rfl⟩
 rcases hE with ⟨ok,rfl⟩|⟨nok,rfl⟩
 ·refine Ev.gT ?_
  refine Wk.ret ⟨_,Rs.tmp rfl Rs.nil,_,Sub.none _,Bis.of (by simp [ok]),rfl,rfl⟩
 ·refine Ev.gT ?_
  refine Wk.ret ⟨_,Rs.tmp rfl Rs.nil,_,Sub.none _,Bis.of (by simp [nok]),rfl,rfl⟩
theorem cs3 {Z:Zone} {nm:ByteArray} {ve va vw:Value} {t:Tbl} (i:Int) (h:TbR Z nm ve va vw t) (ht:t.Sm) (hf:okCells [.string nm,ve,va,vw]=true) :
  Cz M (.func (.func 129) #[] #[]) [.int .i64 i,.agg ⟨[.string nm,ve,va,vw]⟩] Z [] (fun v' Z' A'=>Bis v' (t.Ok∧t.Lat)∧Z=Z'∧A'=[]):=by
 refine Cz.fn (f:=Tryz.f129) Ev.cM rfl rfl rfl _ rfl ?_
 repeat first|refine go ?_|with_reducible intro _
 refine Wk.call rfl rfl (Spl.none _) (Prove_ h ht) rfl rfl rfl ?_
 rintro v' Z' A' hz ⟨⟨k,x,y,e,rfl,he⟩,rfl,rfl⟩
 repeat first|refine go ?_|with_reducible intro _
 refine Wk.ret ⟨_,Rs.tmp rfl Rs.nil,_,Sub.none _,Bis.of (by rw [←he];simp),rfl,rfl⟩
theorem cs21 {Z:Zone} {b:Nat} {n1 n2:ByteArray} {v1 v2 v3 w1 w2 w3:Value} (hb:Z b=some (.cells [.string n2,w1,w2,w3] true 0)) :
  Cz M (.func (.func 128) #[] ⟨[.pointer (some ⟨b,0,none⟩)]⟩) [.agg ⟨[.string n1,v1,v2,v3]⟩] Z [] (fun v' Z' A'=>Bis v' (n1=n2)∧Z=Z'∧A'=[]):=by
 refine Cz.fn (f:=Tryz.f128) Ev.cM rfl rfl rfl _ rfl ?_
 repeat first|refine go ?_|with_reducible intro _
 refine Wk.ret ⟨_,Rs.tmp rfl Rs.nil,_,Sub.none _,Bis.of strEq,rfl,rfl⟩
theorem cs41 {Z:Zone} {b:Nat} {n1 n2:ByteArray} {v1 v2 v3:Value} (hb:Z b=some (.cells [.string n2] true 0)) :
  Cz M (.func (.func 132) #[] ⟨[.pointer (some ⟨b,0,none⟩)]⟩) [.agg ⟨[.string n1,v1,v2,v3]⟩] Z [] (fun v' Z' A'=>Bis v' (n1=n2)∧Z=Z'∧A'=[]):=by
 refine Cz.fn (f:=Tryz.f132) Ev.cM rfl rfl rfl _ rfl ?_
 repeat first|refine go ?_|with_reducible intro _
 refine Wk.ret ⟨_,Rs.tmp rfl Rs.nil,_,Sub.none _,Bis.of strEq,rfl,rfl⟩
theorem indexTbl {Z:Zone} {v fv:Value} {ts:List Tbl} (p:Nat→Prop) (s:TbsR Z v ts) (hn:ts.length≤1000000)
  (hp:∀ i (hi:i < ts.length) a1 m1 c1 a2 m2 c2 a3 m3 c3,Cz M fv [.agg ⟨[.string ts[i].name,.slice a1 m1 c1,.slice a2 m2 c2,.slice a3 m3 c3]⟩] Z [] (fun v' Z' A'=>Bis v' (p i)∧Z=Z'∧A'=[])) :
  Cz M (.func (.func 142) #[] #[]) [v,fv] Z [] (fun v' Z' A'=>(∃ r:Int,v'=.int .i64 r∧(0≤r↔∃ i,i < ts.length∧p i))∧Z=Z'∧A'=[]):=by
 obtain ⟨us,hs,hrows⟩:=s
 refine Cz.fn (f:=Tryz.f142) Ev.cM rfl rfl rfl _ rfl ?_
 refine Ev.gT ?_
 refine Wk.loop (fun mm L Z' A'=>∃ j:Nat,j≤ts.length∧mm=ts.length - j∧Z=Z'∧Sub A' []∧(∀ i,i < j→¬ p i)∧Kp L [(0,v),(1,fv),(6,v),(7,.int .i64 ts.length),(8,.int .i64 j)]) (ts.length) ⟨0,Nat.zero_le _,rfl,rfl,Ev.sM,fun i h=>by omega,Ev.kM⟩ ?_
 rintro mm L Z' A' - ⟨j,hjj,rfl,rfl,hsub,invj,hk⟩
 refine Wk.drop hsub ?_
 refine Wk.kp hk ?_
 clear hk hsub
 refine Ev.gT ?_
 refine Wk.cond rfl (fun hc=>?_) (fun hc=>?_)
 ·have hlt:j < ts.length:=by simp at hc;omega
  obtain ⟨nm,a1,m1,c1,a2,m2,c2,a3,m3,c3,g1,g2⟩:=hrows j hlt
  obtain rfl:=g2.name
  repeat first|refine go ?_|with_reducible intro _
  refine Wk.call rfl rfl (Spl.none _) (hp j hlt a1 m1 c1 a2 m2 c2 a3 m3 c3) rfl rfl rfl ?_
  rintro v' Z' A' hz ⟨⟨b,rfl,hb⟩,rfl,rfl⟩
  refine Ev.gT ?_
  refine Wk.cond rfl (fun hc=>?_) (fun hc=>?_)
  ·refine Ev.gT ?_
   refine Wk.ret ⟨_,Rs.tmp rfl Rs.nil,_,Sub.none _,⟨_,rfl,by simp;exact ⟨j,hlt,hb.1 hc⟩⟩,rfl,rfl⟩
  ·refine Ev.gT ?_
   refine Wk.inv ⟨_,by omega,j+1,by omega,rfl,rfl,Ev.sM,(nextP invj (fun h=>by rw [hb.2 h] at hc;cases hc)),Ev.kM⟩
 ·refine Ev.gT ?_
  refine Wk.ret ⟨_,Rs.tmp rfl Rs.nil,_,Sub.none _,⟨_,rfl,by simp;exact fun i h=>invj i (by simp at hc;omega)⟩,rfl,rfl⟩
theorem containsTbl {Z:Zone} {v fv:Value} {ts:List Tbl} (p:Nat→Prop) (s:TbsR Z v ts) (hn:ts.length≤1000000)
  (hp:∀ i (hi:i < ts.length) a1 m1 c1 a2 m2 c2 a3 m3 c3,Cz M fv [.agg ⟨[.string ts[i].name,.slice a1 m1 c1,.slice a2 m2 c2,.slice a3 m3 c3]⟩] Z [] (fun v' Z' A'=>Bis v' (p i)∧Z=Z'∧A'=[])) :
  Cz M (.func (.func 127) #[] #[]) [v,fv] Z [] (fun v' Z' A'=>Bis v' (∃ i,i < ts.length∧p i)∧Z=Z'∧A'=[]):=by
 refine Cz.fn (f:=Tryz.f127) Ev.cM rfl rfl rfl _ rfl ?_
 refine Ev.gT ?_
 refine Wk.call rfl rfl (Spl.none _) (indexTbl p s hn hp) rfl rfl rfl ?_
 rintro v' Z' A' hz ⟨⟨r,rfl,hr⟩,rfl,rfl⟩
 refine Ev.gT ?_
 refine Wk.ret ⟨_,Rs.tmp rfl Rs.nil,_,Sub.none _,Bis.of (by rw [←hr];simp),rfl,rfl⟩
end Go.Proofs.J
namespace Go.Proofs.J
open Go.Ev Go
theorem cs2 {Z:Zone} {b2:Nat} {v:Value} {ts:List Tbl} (s:TbsR Z v ts) (hn:ts.length≤1000000) (h2:Z b2=some (.cells [v] true 0)) (i:Nat) (hi:i < ts.length) {nm:ByteArray} {a1 a2 a3:Option Addr} {m1 c1 m2 c2 m3 c3:Nat} :
  Cz M (.func (.func 126) #[] ⟨[.pointer (some ⟨b2,0,none⟩)]⟩) [.int .i64 i,.agg ⟨[.string nm,.slice a1 m1 c1,.slice a2 m2 c2,.slice a3 m3 c3]⟩] Z [] (fun v' Z' A'=>Bis v' (∀ j (hj:j < i),ts[j].name≠nm)∧Z=Z'∧A'=[]):=by
 refine Cz.shrink ?_
 obtain ⟨a,c,rfl⟩:=s.form
 obtain ⟨us,hs,hr⟩:=s
 refine Cz.fn (f:=Tryz.f126) Ev.cM rfl rfl rfl _ rfl ?_
 repeat first|refine go ?_|with_reducible intro _
 refine Wk.sliceSl (l:=0) (h:=i) hs rfl rfl rfl rfl rfl rfl rfl rfl rfl rfl rfl ⟨rfl,by simp,by omega,by omega,trivial⟩ fun v8 s8=>?_
 have t8:=TbsR.take Ev.wM hr s8
 refine Ev.gT ?_
 first|refine Wk.freezer Rem.head fun Z1 e1 h4=>?_|refine Wk.freeze Rem.head fun Z1 e1 h4=>?_
 refine Wk.call rfl rfl (Spl.none _) (containsTbl (fun j=>∃ hj:j < (ts.take i).length,(ts.take i)[j].name=nm) (t8.mono e1) (by rw [List.length_take];omega) (fun j hj a1 m1 c1 a2 m2 c2 a3 m3 c3=>(cs21 h4).mono fun v' Z' A' _ q=>⟨q.1.imp ⟨fun h=>⟨hj,h⟩,fun ⟨_,h⟩=>h⟩,q.2⟩)) rfl rfl rfl ?_
 rintro v' Z' A' hz ⟨⟨b,rfl,hb⟩,rfl,rfl⟩
 refine Ev.gT ?_
 refine Wk.ret ⟨_,Rs.tmp rfl Rs.nil,_,Sub.none _,Bis.of ?_,rfl⟩
 constructor
 ·intro h j hj e
  have:b=true:=hb.2 ⟨j,by rw [List.length_take];omega,by rw [List.length_take];omega,by rw [List.getElem_take];exact e⟩
  rw [this] at h;cases h
 ·intro h
  cases b with
  | false=>rfl
  | true =>
   obtain ⟨j,hj,hj',e⟩:=hb.1 rfl
   rw [List.getElem_take] at e
   rw [List.length_take] at hj
   exact absurd e (h j Ev.wM)
theorem cs4 {Z:Zone} {b2:Nat} {v:Value} {ts:List Tbl} (s:TbsR Z v ts) (hn:ts.length≤1000000) (h2:Z b2=some (.cells [v] true 0)) :
  Tells Z (.func (.func 131) #[] ⟨[.pointer (some ⟨b2,0,none⟩)]⟩) (fun x=>∃ t∈ts,t.name=x):=by
 intro Z1 e1 x hx
 refine Cz.shrink ?_
 obtain ⟨a,c,rfl⟩:=s.form
 have h2':=e1 _ _ h2
 refine Cz.fn (f:=Tryz.f131) Ev.cM rfl rfl rfl _ rfl ?_
 repeat first|refine go ?_|with_reducible intro _
 first|refine Wk.freezer Rem.head fun Z2 e2 h4=>?_|refine Wk.freeze Rem.head fun Z2 e2 h4=>?_
 refine Wk.call rfl rfl (Spl.none _) (containsTbl (fun j=>∃ hj:j < ts.length,ts[j].name=x) (s.mono (e1.trans e2)) hn (fun j hj a1 m1 c1 a2 m2 c2 a3 m3 c3=>(cs41 h4).mono fun v' Z' A' _ q=>⟨q.1.imp ⟨fun h=>⟨hj,h⟩,fun ⟨_,h⟩=>h⟩,q.2⟩)) rfl rfl rfl ?_
 rintro v' Z' A' hz ⟨hb,rfl,rfl⟩
 refine Ev.gT ?_
 refine Wk.ret ⟨_,Rs.tmp rfl Rs.nil,_,Sub.none _,hb.imp ?_,rfl⟩
 constructor
 ·rintro ⟨i,hi,_,e⟩;exact ⟨_,List.getElem_mem hi,e⟩
 ·rintro ⟨t,ht,e⟩
  obtain ⟨i,hi,rfl⟩:=List.getElem_of_mem ht
  exact ⟨i,hi,hi,e⟩
theorem CheckShapeI {Z:Zone} {v:Value} {ts:List Tbl} {s:Shp} {cs:List Value} {d:Nat} (ht:TbsR Z v ts) (hn:ts.length≤1000000) (hsm:∀ t∈ts,t.Sm) (hs:ShR Z s cs) (hd:s.levels≤d) (hd1:d≤1000000) (hss:Shp.Sm d s) :
  Cz M (.func (.func 84) #[] #[]) [v,.agg ⟨cs⟩] Z [] (fun v' Z' A'=>v'=.int .i64 (CSE ts s)∧Z=Z'∧A'=[]):=by
 refine Cz.shrink ?_
 obtain ⟨av,cv,rfl⟩:=ht.form
 obtain ⟨ak,ck,usk,rfl,_,_⟩:=hs.form
 refine Cz.fn (f:=Tryz.f84) Ev.cM rfl rfl rfl _ rfl ?_
 repeat first|refine go ?_|with_reducible intro _
 first|refine Wk.freezer Rem.head fun Z1 e1 h3=>?_|refine Wk.freeze Rem.head fun Z1 e1 h3=>?_
 first|refine Wk.freezer Rem.head fun Z2 e2 h2=>?_|refine Wk.freeze Rem.head fun Z2 e2 h2=>?_
 have e:=e1.trans e2
 have ht2:=ht.mono e
 have hs2:=hs.mono e
 have h3':=e2 _ _ h3
 obtain ⟨us,tcs,hsl,hrow⟩:=ht2.rws
 refine Wk.caser 15 rfl (fun hc=>?_) (fun hc=>?_)
 ·refine Ev.gT ?_
  refine Wk.ret ⟨_,Rs.tmp rfl Rs.nil,_,Sub.none _,?_,rfl⟩
  unfold CSE
  rw [if_pos (.inl (by simp at hc;omega))];rfl
 have o1:¬ 8 < ts.length:=by simp at hc;omega
 refine Ev.gT ?_
 refine Wk.call rfl rfl (Spl.none _) (levels_ d hd hd1 hss hs2) rfl rfl rfl ?_
 rintro v' Z' A' hz ⟨rfl,rfl,rfl⟩
 refine Ev.gT ?_
 refine Wk.cond rfl (fun hc=>?_) (fun hc=>?_)
 ·refine Ev.gT ?_
  refine Wk.ret ⟨_,Rs.tmp rfl Rs.nil,_,Sub.none _,?_,rfl⟩
  unfold CSE
  rw [if_pos (.inr (by simp at hc;omega))];rfl
 have o2:¬ (8 < ts.length∨4 < s.levels):=by simp at hc;omega
 refine Ev.gT ?_
 refine Wk.call rfl rfl (Spl.none _) (allTbl (cs:=tcs) (fun i=>∃ h:i < ts.length,ts[i].Ok) hsl (fun i hi=>⟨(hrow i hi).1,(hrow i hi).2.1⟩) hn (fun i hi=>by
  obtain ⟨a1,m1,c1,a2,m2,c2,a3,m3,c3,ec,hR⟩:=(hrow i hi).2.2
  rw [ec]
  exact (cs1 i hR (hsm _ (List.getElem_mem hi)) rfl).mono fun v' Z' A' _ q=>⟨q.1.imp ⟨fun h=>⟨hi,h⟩,fun ⟨_,h⟩=>h⟩,q.2⟩)) rfl rfl rfl ?_
 rintro v' Z' A' hz ⟨⟨b,rfl,hb⟩,rfl,rfl⟩
 have hb':b=true↔∀ t∈ts,t.Ok:=by
  rw [hb]
  constructor
  ·intro h t ht;obtain ⟨i,hi,rfl⟩:=List.getElem_of_mem ht;exact (h i hi).2
  ·intro h i hi;exact ⟨hi,h _ (List.getElem_mem hi)⟩
 refine Ev.gT ?_
 refine Wk.caser 25 rfl (fun hc=>?_) (fun hc=>?_)
 ·refine Ev.gT ?_
  refine Wk.ret ⟨_,Rs.tmp rfl Rs.nil,_,Sub.none _,?_,rfl⟩
  unfold CSE
  rw [if_neg o2,if_pos (fun h=>by rw [hb'.2 h.1] at hc;cases hc)];rfl
 have o3:=hb'.1 (by simpa using hc)
 refine Ev.gT ?_
 refine Wk.call rfl rfl (Spl.none _) (isShape_ d hd hd1 hss hs2) rfl rfl rfl ?_
 rintro v' Z' A' hz ⟨⟨b2,rfl,hb2⟩,rfl,rfl⟩
 refine Ev.gT ?_
 refine Wk.cond rfl (fun hc=>?_) (fun hc=>?_)
 ·refine Ev.gT ?_
  refine Wk.ret ⟨_,Rs.tmp rfl Rs.nil,_,Sub.none _,?_,rfl⟩
  unfold CSE
  rw [if_neg o2,if_pos (fun h=>by rw [hb2.2 h.2] at hc;cases hc)];rfl
 have o4:=hb2.1 (by simpa using hc)
 have o34:¬ ¬ ((∀ t∈ts,t.Ok)∧s.Ok):=fun h=>h ⟨o3,o4⟩
 refine Ev.gT ?_
 refine Wk.call rfl rfl (Spl.none _) (allTbl (cs:=tcs) (fun i=>∃ h:i < ts.length,∀ j (hj:j < i),ts[j].name≠ts[i].name) hsl (fun i hi=>⟨(hrow i hi).1,(hrow i hi).2.1⟩) hn (fun i hi=>by
  obtain ⟨a1,m1,c1,a2,m2,c2,a3,m3,c3,ec,hR⟩:=(hrow i hi).2.2
  rw [ec]
  exact (cs2 ht2 hn h2 i hi).mono fun v' Z' A' _ q=>⟨q.1.imp ⟨fun h=>⟨hi,h⟩,fun ⟨_,h⟩=>h⟩,q.2⟩)) rfl rfl rfl ?_
 rintro v' Z' A' hz ⟨⟨b3,rfl,hb3⟩,rfl,rfl⟩
 have hb3':b3=true↔∀ i j (h:i < ts.length) (hj:j < i),ts[j].name≠ts[i].name:=by
  rw [hb3]
  exact ⟨fun h i j hi hj=>(h i hi).2 j hj,fun h i hi=>⟨hi,fun j hj=>h i j hi hj⟩⟩
 refine Ev.gT ?_
 refine Wk.cond rfl (fun hc=>?_) (fun hc=>?_)
 ·refine Ev.gT ?_
  refine Wk.ret ⟨_,Rs.tmp rfl Rs.nil,_,Sub.none _,?_,rfl⟩
  unfold CSE
  rw [if_neg o2,if_neg o34,if_pos (fun h=>by rw [hb3'.2 h] at hc;cases hc)];rfl
 have o5:=hb3'.1 (by simpa using hc)
 have o5':¬ ¬ (∀ i j (h:i < ts.length) (hj:j < i),ts[j].name≠ts[i].name):=fun h=>h o5
 refine Ev.gT ?_
 refine Wk.call rfl rfl (Spl.none _) (allTbl (cs:=tcs) (fun i=>∃ h:i < ts.length,ts[i].Ok∧ts[i].Lat) hsl (fun i hi=>⟨(hrow i hi).1,(hrow i hi).2.1⟩) hn (fun i hi=>by
  obtain ⟨a1,m1,c1,a2,m2,c2,a3,m3,c3,ec,hR⟩:=(hrow i hi).2.2
  rw [ec]
  exact (cs3 i hR (hsm _ (List.getElem_mem hi)) rfl).mono fun v' Z' A' _ q=>⟨q.1.imp ⟨fun h=>⟨hi,h⟩,fun ⟨_,h⟩=>h⟩,q.2⟩)) rfl rfl rfl ?_
 rintro v' Z' A' hz ⟨⟨b4,rfl,hb4⟩,rfl,rfl⟩
 have hb4':b4=true↔∀ t∈ts,t.Lat:=by
  rw [hb4]
  constructor
  ·intro h t ht;obtain ⟨i,hi,rfl⟩:=List.getElem_of_mem ht;exact (h i hi).2.2
  ·intro h i hi;exact ⟨hi,o3 _ (List.getElem_mem hi),h _ (List.getElem_mem hi)⟩
 refine Ev.gT ?_
 refine Wk.cond rfl (fun hc=>?_) (fun hc=>?_)
 ·refine Ev.gT ?_
  refine Wk.ret ⟨_,Rs.tmp rfl Rs.nil,_,Sub.none _,?_,rfl⟩
  unfold CSE
  rw [if_neg o2,if_neg o34,if_neg o5',if_pos (fun h=>by rw [hb4'.2 h] at hc;cases hc)];rfl
 have o6:=hb4'.1 (by simpa using hc)
 have o6':¬ ¬ (∀ t∈ts,t.Lat):=fun h=>h o6
 refine Ev.gT ?_
 refine Wk.call rfl rfl (Spl.none _) (names_ d hd hd1 hss hs2 rfl (cs4 ht2 hn h2)) rfl rfl rfl ?_
 rintro v' Z' A' hz ⟨⟨b5,rfl,hb5⟩,rfl,rfl⟩
 rw [←Shp.named_all] at hb5
 refine Ev.gT ?_
 refine Wk.cond rfl (fun hc=>?_) (fun hc=>?_)
 ·refine Ev.gT ?_
  refine Wk.ret ⟨_,Rs.tmp rfl Rs.nil,_,Sub.none _,?_,rfl⟩
  unfold CSE
  rw [if_neg o2,if_neg o34,if_neg o5',if_neg o6',if_pos (fun h=>by rw [hb5.2 h] at hc;cases hc)];rfl
 have o7:¬ ¬ s.Named ts:=fun h=>h (hb5.1 (by simpa using hc))
 refine Ev.gT ?_
 refine Wk.ret ⟨_,Rs.tmp rfl Rs.nil,_,Sub.none _,?_,rfl⟩
 unfold CSE
 rw [if_neg o2,if_neg o34,if_neg o5',if_neg o6',if_neg o7];rfl
end Go.Proofs.J
