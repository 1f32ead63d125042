/- OK -/
import Derived.Test.YtlmmgebealakkaaGreatDoorOA
import Derived.Test.YtlmmgebealakkaaGreatDoorEvF
set_option linter.unusedVariables false
set_option maxHeartbeats 4000000
set_option linter.unusedSimpArgs false
namespace Go.Proofs.J
open Go.Ev Go
theorem In_ {Z:Zone} (n a b:Int):Cz M (.func (.func 96) #[] #[]) [.int .i64 n,.int .i64 a,.int .i64 b] Z [] (fun v' Z' A'=>Bis v' (a≤n∧n≤b)∧Z=Z'∧A'=[]):=by
 refine Cz.fn (f:=Tryz.f96) Ev.cM rfl rfl rfl _ rfl ?_
 refine Ev.gT ?_
 refine Wk.caser 10 rfl (fun hc=>?_) (fun hc=>?_)
 ·refine Ev.gT ?_
  refine Wk.ret ⟨_,Rs.tmp rfl Rs.nil,_,Sub.none _,Bis.of (by simp at hc ⊢;omega),rfl,rfl⟩
 ·refine Ev.gT ?_
  refine Wk.ret ⟨_,Rs.tmp rfl Rs.nil,_,Sub.none _,Bis.of (by simp at hc ⊢;omega),rfl,rfl⟩
theorem rFind {Z:Zone} {v:Value} {ss:List ByteArray} (x:ByteArray) (s:Sl Z 1 v ss.length (ss.map Value.string)) (hn:ss.length≤1000000) :
  Cz M (.func (.func 147) #[] #[]) [v,.string x] Z [] (fun v' Z' A'=>(∃ r:Int,v'=.int .i64 r∧((∃ i:Nat,∃ h:i < ss.length,r=i∧ss[i]=x∧∀ j (hj:j < i),ss[j]≠x)∨(r=-1∧x∉ss)))∧Z=Z'∧A'=[]):=by
 refine Cz.fn (f:=Tryz.f147) Ev.cM rfl rfl rfl _ rfl ?_
 refine Ev.gT ?_
 refine Wk.loop (fun mm L Z' A'=>∃ j:Nat,j≤ss.length∧mm=ss.length - j∧Z=Z'∧Sub A' []∧(∀ i,i < j→∀ h:i < ss.length,ss[i]≠x)∧Kp L [(0,v),(1,.string x),(5,.int .i64 j)]) (ss.length) ⟨0,Nat.zero_le _,rfl,rfl,Ev.sM,fun i h=>by omega,Ev.kM⟩ ?_
 rintro mm L Z' A' - ⟨j,hjj,rfl,rfl,hsub,invj,hk⟩
 refine Wk.drop hsub ?_
 refine Wk.kp hk ?_
 clear hk hsub
 refine Ev.gT ?_
 refine Wk.cond rfl (fun hc=>?_) (fun hc=>?_)
 ·have hlt:j < ss.length:=by simp at hc;omega
  repeat first|refine go ?_|with_reducible intro _
  refine Wk.cond rfl (fun hc=>?_) (fun hc=>?_)
  ·refine Ev.gT ?_
   refine Wk.ret ⟨_,Rs.tmp rfl Rs.nil,_,Sub.none _,⟨_,rfl,.inl ⟨j,hlt,rfl,strEq.1 hc,fun i hi=>invj i hi _⟩⟩,rfl,rfl⟩
  ·refine Ev.gT ?_
   refine Wk.inv ⟨_,by omega,j+1,by omega,rfl,rfl,Ev.sM,(nextP invj (fun h e=>by rw [strEq.2 e] at hc;cases hc)),Ev.kM⟩
 ·refine Ev.gT ?_
  have hno:x∉ss:=fun hx=>by
   obtain ⟨i,hi,e⟩:=List.getElem_of_mem hx
   exact invj i (by simp at hc;omega) hi e
  refine Wk.ret ⟨_,Rs.tmp rfl Rs.nil,_,Sub.none _,⟨_,rfl,.inr ⟨rfl,hno⟩⟩,rfl,rfl⟩
theorem rIsName {Z:Zone} (s:ByteArray) (hs:s.size≤1000000):Cz M (.func (.func 146) #[] #[]) [.string s] Z [] (fun v' Z' A'=>Bis v' (IsName s)∧Z=Z'∧A'=[]):=by
 refine Cz.fn (f:=Tryz.f146) Ev.cM rfl rfl rfl _ rfl ?_
 refine Ev.gT ?_
 refine Wk.call rfl rfl (Spl.none _) (In_ _ _ _) rfl rfl rfl ?_
 rintro v' Z' A' hz ⟨⟨b,rfl,hb⟩,rfl,rfl⟩
 refine Ev.gT ?_
 refine Wk.caser 8 rfl (fun hc=>?_) (fun hc=>?_)
 ·have hno:¬ IsName s:=fun h=>by
   rw [hb.2 ⟨by have:=h.1;omega,by have:=h.2.1;omega⟩] at hc;cases hc
  refine Ev.gT ?_
  refine Wk.ret ⟨_,Rs.tmp rfl Rs.nil,_,Sub.none _,Bis.of (by simpa using hno),rfl,rfl⟩
 have hsz:=hb.1 (by simpa using hc)
 have h0:0 < s.size:=by omega
 have e0:s[0]?=some s[0]:=getElem?_pos s 0 h0
 generalize hw:s[0]=w0 at e0
 have no:¬ lowc w0→¬ IsName s:=fun hn hN=>by
  rcases hN.2.2 0 h0 with h|h
  ·rw [hw] at h;exact hn h
  ·exact h.2 rfl
 refine Ev.gT ?_
 refine Wk.caser 13 rfl (fun h1=>?_) (fun h1=>?_)
 ·refine Ev.gT ?_
  refine Wk.ret ⟨_,Rs.tmp rfl Rs.nil,_,Sub.none _,Bis.of (by simp [lowc] at h1 no ⊢;exact no Ev.wM),rfl,rfl⟩
 refine Ev.gT ?_
 refine Wk.cond rfl (fun h2=>?_) (fun h2=>?_)
 ·refine Ev.gT ?_
  refine Wk.ret ⟨_,Rs.tmp rfl Rs.nil,_,Sub.none _,Bis.of (by simp [lowc] at h2 no ⊢;exact no Ev.wM),rfl,rfl⟩
 have hl0:lowc w0:=by simp [lowc] at h1 h2 ⊢;omega
 refine Ev.gT ?_
 refine Wk.loop (fun mm L Z' A'=>∃ j:Nat,j≤s.size∧mm=s.size - j∧Z=Z'∧Sub A' []∧(∀ i (h:i < s.size),i < j→lowc s[i]∨digc s[i])∧Kp L [(0,.string s),(3,.int .i64 j)]) (s.size) ⟨0,Nat.zero_le _,rfl,rfl,Ev.sM,fun i _ h=>by omega,Ev.kM⟩ ?_
 rintro mm L Z' A' - ⟨j,hjj,rfl,rfl,hsub,invj,hk⟩
 refine Wk.drop hsub ?_
 refine Wk.kp hk ?_
 clear hk hsub
 refine Ev.gT ?_
 refine Wk.cond rfl (fun hc=>?_) (fun hc=>?_)
 ·have hlt:j < s.size:=by simp at hc;omega
  have e1:s[j]?=some s[j]:=getElem?_pos s j hlt
  have nx:lowc s[j]∨digc s[j]→∀ i (h:i < s.size),i < j+1→lowc s[i]∨digc s[i]:=fun hh i h hi=>by
   by_cases e:i=j
   ·subst e;exact hh
   ·exact invj i h Ev.wM
  have no:¬ (lowc s[j]∨digc s[j])→¬ IsName s:=fun hn hN=>hn ((hN.2.2 j hlt).imp id fun h=>h.1)
  generalize s[j]=w at e1 nx no
  refine Ev.gT ?_
  first|refine Wk.cut (fun L Z' A'=>Z=Z'∧Sub A' []∧Kp L [(47,.bool (decide (¬ (lowc w∨digc w)))),(0,.string s),(3,.int .i64 j)]) ?_ ?_|refine Wk.cutr (fun L Z' A'=>Z=Z'∧Sub A' []∧Kp L [(47,.bool (decide (¬ (lowc w∨digc w)))),(0,.string s),(3,.int .i64 j)]) ?_ ?_
  ·refine Wk.caser 28 rfl (fun hl=>?_) (fun hl=>?_)
   ·refine Ev.gT ?_
    refine Wk.caser 35 rfl (fun hk=>?_) (fun hk=>?_)
    ·refine Ev.gT ?_
     refine Wk.caser 40 rfl (fun hd=>?_) (fun hd=>?_)
     ·refine Ev.gT ?_
      refine Wk.inv ⟨rfl,Ev.sM,⟨eqBp (by simp [lowc,digc] at hl hk hd ⊢;omega),rfl,rfl,trivial⟩⟩
     ·refine Ev.gT ?_
      refine Wk.inv ⟨rfl,Ev.sM,⟨eqBp (by simp [lowc,digc] at hl hk hd ⊢;omega),rfl,rfl,trivial⟩⟩
    ·refine Ev.gT ?_
     refine Wk.inv ⟨rfl,Ev.sM,⟨eqBp (by simp [lowc,digc] at hl hk ⊢;omega),rfl,rfl,trivial⟩⟩
   ·refine Ev.gT ?_
    refine Wk.caser 40 rfl (fun hd=>?_) (fun hd=>?_)
    ·refine Ev.gT ?_
     refine Wk.inv ⟨rfl,Ev.sM,⟨eqBp (by simp [lowc,digc] at hl hd ⊢;omega),rfl,rfl,trivial⟩⟩
    ·refine Ev.gT ?_
     refine Wk.inv ⟨rfl,Ev.sM,⟨eqBp (by simp [lowc,digc] at hl hd ⊢;omega),rfl,rfl,trivial⟩⟩
  ·rintro L Z' A' - ⟨rfl,hsub,hk⟩
   refine Wk.drop hsub ?_
   refine Wk.kp hk ?_
   clear hk hsub
   refine Wk.cond rfl (fun hd=>?_) (fun hd=>?_)
   ·refine Ev.gT ?_
    refine Wk.ret ⟨_,Rs.tmp rfl Rs.nil,_,Sub.none _,Bis.of (by simp only [Bool.false_eq_true,false_iff];exact no (by simpa using hd)),rfl,rfl⟩
   ·refine Ev.gT ?_
    refine Wk.inv ⟨_,by omega,j+1,by omega,rfl,rfl,Ev.sM,(nx (Classical.byContradiction fun h=>by simp [h] at hd)),Ev.kM⟩
 ·refine Ev.gT ?_
  have hN:IsName s:=⟨by omega,by omega,fun i hi=>by
   rcases invj i hi (by simp at hc;omega) with h|h
   ·exact .inl h
   ·by_cases e:i=0
    ·subst e;rw [hw];exact .inl hl0
    ·exact .inr ⟨h,e⟩⟩
  refine Wk.ret ⟨_,Rs.tmp rfl Rs.nil,_,Sub.none _,Bis.of (by simpa using hN),rfl,rfl⟩
theorem rWords {Z:Zone}:Cz M (.func (.func 185) #[] #[]) [] Z [] (fun v' Z' A'=>Sl Z' 1 v' wordL.length (wordL.map Value.string)∧A'=[]):=by
 refine Cz.fn (f:=Tryz.f185) Ev.cM rfl rfl rfl _ rfl ?_
 refine Ev.gT ?_
 refine Wk.bs rfl rfl rfl rfl rfl rfl rfl fun b=>?_
 first|refine Wk.freezer Rem.head fun Z1 e1 hb=>?_|refine Wk.freeze Rem.head fun Z1 e1 hb=>?_
 refine Ev.gT ?_
 exact Wk.ret ⟨_,Rs.tmp rfl Rs.nil,_,Sub.none _,Sl.ofAll hb rfl (.inl rfl),rfl⟩
theorem rIsTable {Z:Zone} (s:ByteArray) (hs:s.size≤1000000):Cz M (.func (.func 145) #[] #[]) [.string s] Z [] (fun v' Z' A'=>Bis v' (IsTableName s)∧Z=Z'∧A'=[]):=by
 refine Cz.shrink ?_
 refine Cz.fn (f:=Tryz.f145) Ev.cM rfl rfl rfl _ rfl ?_
 refine Ev.gT ?_
 refine Wk.call rfl rfl (Spl.none _) (rIsName s hs) rfl rfl rfl ?_
 rintro v' Z' A' hz ⟨⟨b,rfl,hb⟩,rfl,rfl⟩
 refine Ev.gT ?_
 refine Wk.caser 5 rfl (fun hc=>?_) (fun hc=>?_)
 ·refine Ev.gT ?_
  refine Wk.call rfl rfl (Spl.none _) (rWords) rfl rfl rfl ?_
  rintro v6 Z1 A' hz1 ⟨hw,rfl⟩
  refine Ev.gT ?_
  refine Wk.call rfl rfl (Spl.none _) (rFind s hw (by decide)) rfl rfl rfl ?_
  rintro v' Z' A' hz ⟨⟨r,rfl,hr⟩,rfl,rfl⟩
  refine Ev.gT ?_
  refine Wk.ret ⟨_,Rs.tmp rfl Rs.nil,_,Sub.none _,Bis.of ?_,rfl⟩
  rcases hr with ⟨i,hi,rfl,e,_⟩|⟨rfl,hno⟩
  ·have:s∈wordL:=e▸List.getElem_mem hi
   simp [IsTableName,this]
  ·simp [IsTableName,hno,hb.1 hc]
 ·refine Ev.gT ?_
  refine Wk.ret ⟨_,Rs.tmp rfl Rs.nil,_,Sub.none _,Bis.of ?_,rfl⟩
  simp [IsTableName,←hb,hc]
end Go.Proofs.J
namespace Go.Proofs.J
open Go.Ev Go
theorem rCheck {Z:Zone} {nm:ByteArray} {ve va vw:Value} {t:Tbl} (h:TbR Z nm ve va vw t) (ht:t.Sm) :
  Cz M (.func (.func 92) #[] #[]) [.agg ⟨[.string nm,ve,va,vw]⟩] Z [] (fun v' Z' A'=>Ers v' t.Ok 4∧Z=Z'∧A'=[]):=by
 obtain rfl:=h.name
 have se:=h.elems
 have sw:=h.wrong
 obtain ⟨us,sa,ra⟩:=h.above
 have hel:=ht.elems
 have no:∀ {Z':Zone},¬ t.Ok→Ers (outOf [.int .i64 4]) t.Ok 4∧Z'=Z'∧([]:List SA)=[]:=fun h=>⟨.inr ⟨h,rfl⟩,rfl,rfl⟩
 refine Cz.fn (f:=Tryz.f92) Ev.cM rfl rfl rfl _ rfl ?_
 repeat first|refine go ?_|with_reducible intro _
 refine Wk.call rfl rfl (Spl.none _) (rIsTable t.name ht.name) rfl rfl rfl ?_
 rintro v' Z' A' hz ⟨⟨b,rfl,hb⟩,rfl,rfl⟩
 refine Ev.gT ?_
 refine Wk.caser 13 rfl (fun hc=>?_) (fun hc=>?_)
 ·refine Ev.gT ?_
  refine Wk.ret ⟨_,Rs.tmp rfl Rs.nil,_,Sub.none _,no fun ok=>by rw [hb.2 ok.1] at hc;cases hc⟩
 have o1:IsTableName t.name:=hb.1 (by simpa using hc)
 clear hc hb
 refine Ev.gT ?_
 refine Wk.call rfl rfl (Spl.none _) (In_ _ _ _) rfl rfl rfl ?_
 rintro v' Z' A' hz ⟨⟨b,rfl,hb⟩,rfl,rfl⟩
 refine Ev.gT ?_
 refine Wk.caser 18 rfl (fun hc=>?_) (fun hc=>?_)
 ·refine Ev.gT ?_
  refine Wk.ret ⟨_,Rs.tmp rfl Rs.nil,_,Sub.none _,no fun ok=>by rw [hb.2 ⟨by have:=ok.2.1;omega,by have:=ok.2.2.1;omega⟩] at hc;cases hc⟩
 have o2:=hb.1 (by simpa using hc)
 clear hc hb
 refine Ev.gT ?_
 refine Wk.caser 25 rfl (fun hc=>?_) (fun hc=>?_)
 ·refine Ev.gT ?_
  refine Wk.ret ⟨_,Rs.tmp rfl Rs.nil,_,Sub.none _,no fun ok=>by have:=ok.2.2.2.1;simp at hc;omega⟩
 have o4:t.above.length=t.elems.length:=by simp at hc;omega
 clear hc
 refine Ev.gT ?_
 refine Wk.cond rfl (fun hc=>?_) (fun hc=>?_)
 ·refine Ev.gT ?_
  refine Wk.ret ⟨_,Rs.tmp rfl Rs.nil,_,Sub.none _,no fun ok=>by have:=ok.2.2.2.2.1;simp at hc;omega⟩
 have o5:t.wrong.length=t.elems.length:=by simp at hc;omega
 clear hc
 refine Ev.gT ?_
 refine Wk.loop (fun mm L Z' A'=>∃ i:Nat,i≤t.elems.length∧mm=t.elems.length - i∧Z=Z'∧Sub A' [pt _ (.cells [.string t.name,ve,va,vw] true 0)]∧((∀ x (h:x < t.elems.length),x < i→IsName t.elems[x]∧∀ j (hj:j < x),t.elems[j]≠t.elems[x])∧∀ x (h:x < t.above.length),x < i→RowOk t.elems.length t.above[x])∧Kp L [(1,.pointer (some ⟨_,0,none⟩)),(3,.int .i64 t.elems.length),(4,.int .i64 i)]) t.elems.length ⟨0,Nat.zero_le _,rfl,rfl,Sub.refl _,⟨fun x _ h=>by omega,fun x _ h=>by omega⟩,Ev.kM⟩ ?_
 rintro mm L Z' A' - ⟨i,hi,rfl,rfl,hsub,⟨inv1,inv2⟩,hk⟩
 refine Wk.drop hsub ?_
 refine Wk.kp hk ?_
 clear hk hsub
 refine Ev.gT ?_
 refine Wk.cond rfl (fun hc=>?_) (fun hc=>?_)
 ·have hlt:i < t.elems.length:=by simp at hc;omega
  have hia:i < t.above.length:=by omega
  clear hc
  obtain ⟨u,ua,su⟩:=ra i hia
  have hg:getCells us (i*1) 1=some [u]:=getCells_one (by rw [Nat.mul_one];exact ua)
  have hrl:=ht.rows _ (List.getElem_mem hia)
  refine Ev.gT ?_
  refine Wk.drawr (ms:=[0,1,0,7,15,31,63,127,255,511,255,1279,255,7423,15615,32767,255,131071,262143]) (l:=[0,1,2,3,4,5,6,7,8,9,10,11,12,13,14,16,15,17,18]) Ev.cM Ev.cM Ev.cM rfl ?_
  repeat first|refine go ?_|with_reducible intro _
  refine Wk.call rfl rfl (Spl.none _) (rIsName t.elems[i] (ht.each _ (List.getElem_mem hlt))) Ev.cM rfl rfl ?_
  rintro v' Z' A' hz ⟨⟨b,rfl,hb⟩,rfl,rfl⟩
  refine Ev.gT ?_
  refine Wk.caser 44 rfl (fun hc=>?_) (fun hc=>?_)
  ·refine Ev.gT ?_
   refine Wk.ret ⟨_,Rs.tmp rfl Rs.nil,_,Sub.none _,no fun ok=>by rw [hb.2 (ok.2.2.2.2.2.1 i hlt)] at hc;cases hc⟩
  have n1:=hb.1 (by simpa using hc)
  clear hc hb
  repeat first|refine go ?_|with_reducible intro _
  refine Wk.call rfl rfl (Spl.none _) (rFind t.elems[i] se hel) Ev.cM rfl rfl ?_
  rintro v' Z' A' hz ⟨⟨r,rfl,hr⟩,rfl,rfl⟩
  refine Ev.gT ?_
  have hr':r=i↔∀ j (hj:j < i),t.elems[j]≠t.elems[i]:=by
   rcases hr with ⟨k,hk,rfl,e,hno⟩|⟨_,hno⟩
   ·constructor
    ·intro e2
     obtain rfl:k=i:=by omega
     exact hno
    ·intro h
     rcases Nat.lt_trichotomy k i with q|q|q
     ·exact absurd e (h k q)
     ·rw [q]
     ·exact absurd rfl (hno i q)
   ·exact absurd (List.getElem_mem hlt) hno
  refine Wk.cond rfl (fun hc=>?_) (fun hc=>?_)
  ·refine Ev.gT ?_
   refine Wk.ret ⟨_,Rs.tmp rfl Rs.nil,_,Sub.none _,no fun ok=>by have:=hr'.2 fun j hj=>ok.2.2.2.2.2.2.1 i j hlt hj;simp at hc;omega⟩
  have n2:=hr'.1 (by simpa using hc)
  clear hc hr hr'
  refine Ev.gT ?_
  refine Wk.loop (fun mm L Z' A'=>∃ k:Nat,k≤t.above[i].length∧mm=t.above[i].length - k∧Z=Z'∧Sub A' [pt _ (.cells [.string t.name,ve,va,vw] true 0)]∧(∀ x (h:x < t.above[i].length),x < k→(0≤t.above[i][x]∧t.above[i][x] < t.elems.length)∧∀ hx:0 < x,t.above[i][x - 1] < t.above[i][x])∧Kp L [(1,.pointer (some ⟨_,0,none⟩)),(3,.int .i64 t.elems.length),(4,.int .i64 i),(5,.int .i64 k)]) t.above[i].length ⟨0,Nat.zero_le _,rfl,rfl,Sub.refl _,fun x _ h=>by omega,Ev.kM⟩ ?_
  rintro mm L Z' A' - ⟨k,hk1,rfl,rfl,hsub,inv3,hk⟩
  refine Wk.drop hsub ?_
  refine Wk.kp hk ?_
  clear hk hsub
  repeat first|refine go ?_|with_reducible intro _
  refine Wk.cond rfl (fun hc=>?_) (fun hc=>?_)
  ·have hlk:k < t.above[i].length:=by simp at hc;omega
   clear hc
   refine Ev.gT ?_
   refine Wk.drawr (ms:=[0,1,0,7,15,0,63,127,0,256,1023,2047,4095,8191,16383,32767,65535,131071,65535,524287,1048575,65535,4194303,8388607,65535,16842751,65535,117506047,251723775,65535,536936447,2130771967,4278255615,8589934591,17179869183,34359738367]) (l:=[0,1,2,3,4,5,6,7,8,9,10,11,12,13,14,15,16,17,18,19,20,21,22,23,24,25,26,27,28,29,30,31,32,33,34,35]) Ev.cM Ev.cM Ev.cM rfl ?_
   repeat first|refine go ?_|with_reducible intro _
   refine Wk.call rfl rfl (Spl.none _) (In_ _ _ _) Ev.cM rfl rfl ?_
   rintro v' Z' A' hz ⟨⟨b,rfl,hb⟩,rfl,rfl⟩
   refine Ev.gT ?_
   refine Wk.caser 78 rfl (fun hc=>?_) (fun hc=>?_)
   ·refine Ev.gT ?_
    refine Wk.ret ⟨_,Rs.tmp rfl Rs.nil,_,Sub.none _,no fun ok=>by have:=(ok.2.2.2.2.2.2.2 i hia).1 k hlk;rw [hb.2 Ev.wM] at hc;cases hc⟩
   have n3:=hb.1 (by simpa using hc)
   clear hc hb
   refine Ev.gT ?_
   refine Wk.caser 81 rfl (fun hc=>?_) (fun hc=>?_)
   ·have hk0:0 < k:=by simp at hc;omega
    clear hc
    repeat first|refine go ?_|with_reducible intro _
    refine Wk.iaSl (k - 1) su rfl rfl rfl rfl rfl rfl Ev.wM Ev.wM (getCells_map Ev.wM) fun b off hp=>?_
    refine Ev.gT ?_
    refine Wk.cond rfl (fun hc=>?_) (fun hc=>?_)
    ·refine Ev.gT ?_
     refine Wk.ret ⟨_,Rs.tmp rfl Rs.nil,_,Sub.none _,no fun ok=>by have h9:=(ok.2.2.2.2.2.2.2 i hia).2 (k - 1) Ev.wM;have e:k - 1+1=k:=Ev.wM;simp only [e] at h9;simp at hc;omega⟩
    ·refine Ev.gT ?_
     refine Wk.inv ⟨_,by omega,k+1,hlk,rfl,rfl,Sub.refl _,fun x hx hxk=>?_,Ev.kM⟩
     by_cases e:x=k
     ·subst e
      exact ⟨by omega,fun _=>by simp at hc;omega⟩
     ·exact inv3 x hx Ev.wM
   ·have hk0:k=0:=by simp at hc;omega
    refine Ev.gT ?_
    refine Wk.inv ⟨_,by omega,k+1,hlk,rfl,rfl,Sub.refl _,fun x hx hxk=>?_,Ev.kM⟩
    by_cases e:x=k
    ·subst e
     exact ⟨by omega,fun h=>by omega⟩
    ·exact inv3 x hx Ev.wM
  ·have hk2:k=t.above[i].length:=by simp at hc;omega
   have hrow:RowOk t.elems.length t.above[i]:=⟨fun x hx=>(inv3 x hx Ev.wM).1,fun x hx=>(inv3 (x+1) hx Ev.wM).2 Ev.wM⟩
   refine Ev.gT ?_
   refine Wk.inv ⟨_,by omega,i+1,hlt,rfl,rfl,Sub.refl _,⟨fun x hx hxk=>?_,fun x hx hxk=>?_⟩,Ev.kM⟩
   ·by_cases e:x=i
    ·subst e;exact ⟨n1,n2⟩
    ·exact inv1 x hx Ev.wM
   ·by_cases e:x=i
    ·subst e;exact hrow
    ·exact inv2 x hx Ev.wM
 ·have hin:i=t.elems.length:=by simp at hc;omega
  refine Ev.gT ?_
  refine Wk.ret ⟨_,Rs.tmp rfl Rs.nil,_,Sub.none _,.inl ⟨⟨o1,by omega,by omega,o4,o5,fun x hx=>(inv1 x hx Ev.wM).1,fun x j hx hj=>(inv1 x hx Ev.wM).2 j hj,fun x hx=>inv2 x hx Ev.wM⟩,rfl⟩,rfl,rfl⟩
end Go.Proofs.J
namespace Go.Proofs.J
open Go.Ev Go
theorem rSteps {Z:Zone} {nm:ByteArray} {ve va vw:Value} {t:Tbl} (h:TbR Z nm ve va vw t) (ht:t.Sm) (ok:t.Ok) (a b:Nat) (ha:a < t.elems.length) (hb:b < t.elems.length) :
  Cz M (.func (.func 214) #[] #[]) [.agg ⟨[.string nm,ve,va,vw]⟩,.int .i64 a,.int .i64 b] Z [] (fun v' Z' A'=>Bis v' (t.St a b)∧Z=Z'∧A'=[]):=by
 have se:=h.elems
 obtain ⟨us,sa,ra⟩:=h.above
 have hn:=ok.2.2.1
 have hal:=ok.2.2.2.1
 refine Cz.fn (f:=Tryz.f214) Ev.cM rfl rfl rfl _ rfl ?_
 repeat first|refine go ?_|with_reducible intro _
 refine Wk.mks t.elems.length t.elems.length rfl rfl rfl rfl rfl rfl rfl rfl (Nat.le_refl _) (by show 1*t.elems.length≤_;omega) Ev.wM fun b7=>?_
 refine Wk.alterr Rem.head (fun s h=>olp_bool h) ?_
 refine Ev.gT ?_
 refine Wk.bs rfl rfl rfl rfl rfl rfl rfl fun b16=>?_
 refine Wk.alterr Rem.head (C:=[oq 1 (.slice (some ⟨b16,0,none⟩) 1 1) 1 ([(a:Int)].map (Value.int .i64))]) (fun s h=>Sat.one (oq.of_ol (Sat.one_inv (ol_of_pt (m:=1) (g:=0) rfl (.inl rfl) rfl h)))) ?_
 refine Ev.gT ?_
 refine Wk.loop (fun mm L Z' A'=>∃ (seen:List Bool) (todo:List Int) (v8:Value),Rb t a seen todo none∧todo.length+seen.count false≤13∧mm=2*seen.count false+todo.length∧Z=Z'∧Sub A' [oq 1 v8 todo.length (todo.map (Value.int .i64)),olp b7 1 (.slice (some ⟨b7,0,none⟩) t.elems.length t.elems.length) t.elems.length (seen.map Value.bool),pt _ (.cells [.string nm,ve,va,vw] true 0)]∧Kp L [(2,.int .i64 b),(3,.pointer (some ⟨_,0,none⟩)),(7,.slice (some ⟨b7,0,none⟩) t.elems.length t.elems.length),(8,v8)]) _ ⟨_,_,_,Rb.init t a,by simp;omega,rfl,rfl,Sub.refl _,Ev.kM⟩ ?_
 rintro mm L Z' A' - ⟨seen,todo,v8,hB,hle,rfl,rfl,hsub,hk⟩
 refine Wk.drop hsub ?_
 refine Wk.kp hk ?_
 clear hk hsub
 refine Ev.gT ?_
 refine Wk.cond rfl (fun hc=>?_) (fun hc=>?_)
 ·cases todo with
  | nil=>simp at hc
  | cons c rest =>
  obtain ⟨x,rfl,hx⟩:=hB.s2 c (List.mem_cons_self ..)
  have hxn:x < t.elems.length:=by rcases hx with rfl|hx;exact ha;exact hx.lt ok
  have hxa:x < t.above.length:=by omega
  obtain ⟨ux,uxa,sux⟩:=ra x hxa
  have hgx:getCells us (x*1) 1=some [ux]:=getCells_one (by rw [Nat.mul_one];exact uxa)
  have hrow:=ok.2.2.2.2.2.2.2 x hxa
  have hrl:=hrow.length
  clear hc
  refine Ev.gT ?_
  refine Wk.drawr (ms:=[0,1,0,4,12,31,63,127]) (l:=[0,1,2,3,4,5,6,7]) Ev.cM Ev.cM Ev.cM rfl ?_
  refine Ev.gT ?_
  refine Wk.oqOpenr Rem.head (by simp) fun bq off=>?_
  refine Wk.iaOqp 0 Rem.head rfl rfl rfl rfl rfl rfl rfl (by simp) ?_
  refine Wk.loadOqp1 (o:=0*1) (v:=.int .i64 x) rfl rfl Rem.head rfl (by simp) rfl rfl ?_
  refine Wk.oqShutr Rem.head ?_
  repeat first|refine go ?_|with_reducible intro _
  refine Wk.sliceOq (l:=1) Rem.head rfl rfl rfl rfl rfl (by simp) rfl rfl rfl fun v9=>?_
  refine Ev.gT ?_
  refine Wk.loop (fun mm L Z' A'=>∃ (i:Nat) (sn:List Bool) (td:List Int) (v8:Value),i≤t.above[x].length∧mm=t.above[x].length - i∧Rb t a sn td (some x)∧td.length+sn.count false≤12∧2*sn.count false+td.length < 2*seen.count false+(rest.length+1)∧(∀ j (hj:j < t.above[x].length),j < i→∀ k:Nat,t.above[x][j]=k→sn[k]?=some true)∧Z=Z'∧Sub A' [oq 1 v8 td.length (td.map (Value.int .i64)),olp b7 1 (.slice (some ⟨b7,0,none⟩) t.elems.length t.elems.length) t.elems.length (sn.map Value.bool),pt _ (.cells [.string nm,ve,va,vw] true 0)]∧Kp L [(2,.int .i64 b),(3,.pointer (some ⟨_,0,none⟩)),(7,.slice (some ⟨b7,0,none⟩) t.elems.length t.elems.length),(8,v8),(9,ux),(10,.int .i64 i)]) t.above[x].length ⟨0,_,rest,_,Nat.zero_le _,rfl,hB.pop,by simp only [List.length_cons] at hle;omega,by omega,fun j _ h=>by omega,rfl,Sub.refl _,Ev.kM⟩ ?_
  rintro mm L Z' A' - ⟨i,sn,td,v10,hi,rfl,hR,hl2,hlt2,hall,rfl,hsub,hk⟩
  refine Wk.drop hsub ?_
  refine Wk.kp hk ?_
  clear hk hsub
  refine Ev.gT ?_
  refine Wk.cond rfl (fun hc=>?_) (fun hc=>?_)
  ·have hlt:i < t.above[x].length:=by simp at hc;omega
   clear hc
   obtain ⟨k,hk⟩:∃ k:Nat,t.above[x][i]=(k:Int):=⟨t.above[x][i].toNat,(Int.toNat_of_nonneg (hrow.1 i hlt).1).symm⟩
   have hkn:k < t.elems.length:=by have:=(hrow.1 i hlt).2;omega
   have hks:k < sn.length:=by rw [hR.len];exact hkn
   have hst:t.St a k:=by
    have hE:t.E x k:=⟨hxa,by rw [←hk];exact List.getElem_mem hlt⟩
    rcases hx with rfl|hx
    ·exact .one hE
    ·exact .more hx hE
   have hgi:getCells (t.above[x].map (Value.int .i64)) (i*1) 1=some [.int .i64 k]:=by rw [getCells_map hlt,hk]
   have nx:∀ sn':List Bool,(∀ q,sn[q]?=some true→sn'[q]?=some true)→sn'[k]?=some true→∀ j (hj:j < t.above[x].length),j < i+1→∀ q:Nat,t.above[x][j]=q→sn'[q]?=some true:=fun sn' h1 h2 j hj hji q hq=>by
    by_cases e:j=i
    ·subst e
     obtain rfl:q=k:=by omega
     exact h2
    ·exact h1 q (hall j hj Ev.wM q hq)
   repeat first|refine go ?_|with_reducible intro _
   refine Wk.iaOlp k (Rem.tail Rem.head) rfl rfl rfl rfl rfl rfl rfl hkn ?_
   refine Wk.loadOlp rfl rfl (Rem.tail Rem.head) (getCells_map (f:=Value.bool) hks) rfl rfl rfl ?_
   refine Ev.gT ?_
   refine Wk.cond rfl (fun hd=>?_) (fun hd=>?_)
   ·have hbk:sn[k]=false:=by simpa using hd
    have hcnt:=count_mark hks hbk
    repeat first|refine go ?_|with_reducible intro _
    refine Wk.iaOlp k (Rem.tail Rem.head) rfl rfl rfl rfl rfl rfl rfl hkn ?_
    refine Wk.storeOlp rfl rfl rfl rfl rfl (Rem.tail Rem.head) (set_cells Value.bool sn k true hks) rfl rfl ?_
    repeat first|refine go ?_|with_reducible intro _
    refine Wk.bs rfl rfl rfl rfl rfl rfl rfl fun b54=>?_
    refine Wk.appendQ rfl rfl rfl rfl rfl rfl rfl rfl (Rem.tail (Rem.tail Rem.head)) (Src.lit (.inr (List.Mem.head _)) rfl) rfl rfl rfl Ev.wM Ev.wM rfl rfl rfl fun v11=>?_
    refine Ev.gT ?_
    refine Wk.inv ⟨_,by omega,i+1,sn.set k true,td++[(k:Int)],v11,hlt,rfl,hR.push hks hst,by simp only [List.length_append,List.length_cons,List.length_nil];omega,by simp only [List.length_append,List.length_cons,List.length_nil];omega,nx _ (fun q hq=>(set_get hks).2 (.inr hq)) ((set_get hks).2 (.inl rfl)),rfl,?_,Ev.kM⟩
    rw [List.length_append,List.map_append]
    exact .keep (.drop (Sub.refl _))
   ·have hbk:sn[k]?=some true:=by rw [List.getElem?_eq_getElem hks];simpa using hd
    refine Ev.gT ?_
    exact Wk.inv ⟨_,by omega,i+1,sn,td,v10,hlt,rfl,hR,hl2,hlt2,nx _ (fun q hq=>hq) hbk,rfl,Sub.refl _,Ev.kM⟩
  ·have hin:i=t.above[x].length:=by simp at hc;omega
   have hclo:Clo t sn x:=fun c hc=>by
    obtain ⟨_,hm⟩:=hc
    obtain ⟨j,hj,e⟩:=List.getElem_of_mem hm
    exact hall j hj Ev.wM c e
   refine Ev.gT ?_
   exact Wk.inv ⟨_,by simp only [List.length_cons];exact hlt2,sn,td,v10,hR.closed hclo,by omega,rfl,rfl,Sub.refl _,Ev.kM⟩
 ·have:todo=[]:=by
   cases todo with
   | nil=>rfl
   | cons _ _=>simp at hc
  subst this
  have hbs:b < seen.length:=by rw [hB.len];exact hb
  refine Ev.gT ?_
  refine Wk.iaOlp b (Rem.tail Rem.head) rfl rfl rfl rfl rfl rfl rfl hb ?_
  refine Wk.loadOlp rfl rfl (Rem.tail Rem.head) (getCells_map (f:=Value.bool) hbs) rfl rfl rfl ?_
  refine Ev.gT ?_
  refine Wk.ret ⟨_,Rs.tmp rfl Rs.nil,_,Sub.none _,Bis.of (by rw [←hB.done b,List.getElem?_eq_getElem hbs];simp),rfl,rfl⟩
end Go.Proofs.J
namespace Go.Proofs.J
open Go.Ev Go
theorem rIsBelow {Z:Zone} {nm:ByteArray} {ve va vw:Value} {t:Tbl} (h:TbR Z nm ve va vw t) (ht:t.Sm) (ok:t.Ok) (a c:Nat) (ha:a < t.elems.length) (hc:c < t.elems.length) (hok:okCells [.string nm,ve,va,vw]=true) :
  Cz M (.func (.func 197) #[] #[]) [.agg ⟨[.string nm,ve,va,vw]⟩,.int .i64 a,.int .i64 c] Z [] (fun v' Z' A'=>Bis v' (t.Bl a c)∧Z=Z'∧A'=[]):=by
 refine Cz.fn (f:=Tryz.f197) Ev.cM rfl rfl rfl _ rfl ?_
 repeat first|refine go ?_|with_reducible intro _
 refine Wk.caser 10 rfl (fun hd=>?_) (fun hd=>?_)
 ·have hac:a=c:=by simp at hd;omega
  refine Ev.gT ?_
  refine Wk.ret ⟨_,Rs.tmp rfl Rs.nil,_,Sub.none _,Bis.of (by simp [Tbl.Bl,hac]),rfl,rfl⟩
 ·have hac:¬ a=c:=by simp at hd;omega
  refine Ev.gT ?_
  refine Wk.call rfl rfl (Spl.none _) (rSteps h ht ok a c ha hc) rfl rfl rfl ?_
  rintro v' Z' A' hz ⟨hb,rfl,rfl⟩
  obtain ⟨b,rfl,hb⟩:=hb
  refine Ev.gT ?_
  refine Wk.ret ⟨_,Rs.tmp rfl Rs.nil,_,Sub.none _,Bis.of (by simp [Tbl.Bl,hac,hb]),rfl,rfl⟩
theorem rRel {Z:Zone} {nm:ByteArray} {ve va vw:Value} {t:Tbl} (h:TbR Z nm ve va vw t) (ht:t.Sm) (ok:t.Ok) (hok:okCells [.string nm,ve,va,vw]=true) :
  Cz M (.func (.func 158) #[] #[]) [.agg ⟨[.string nm,ve,va,vw]⟩] Z [] (fun v' Z' A'=>RelR Z' v' t∧A'=[]):=by
 have se:=h.elems
 have hn:=ok.2.2.1
 refine Cz.fn (f:=Tryz.f158) Ev.cM rfl rfl rfl _ rfl ?_
 repeat first|refine go ?_|with_reducible intro _
 refine Wk.olNil 1 ?_
 refine Wk.loop (fun mm L Z' A'=>∃ (i:Nat) (us:List Value) (v3:Value),i≤t.elems.length∧mm=t.elems.length - i∧us.length=i∧(∀ a,a < i→∃ (u:Value) (l:List Bool),us[a]?=some u∧Sl Z' 1 u t.elems.length (l.map Value.bool)∧l.length=t.elems.length∧∀ c:Nat,c < t.elems.length→(l[c]?=some true↔t.Bl a c))∧Sub A' [ol 1 v3 i us,pt _ (.cells [.string nm,ve,va,vw] true 0)]∧Kp L [(1,.pointer (some ⟨_,0,none⟩)),(3,v3),(4,.int .i64 i)]) t.elems.length ⟨0,[],_,Nat.zero_le _,rfl,rfl,fun a h=>by omega,Sub.refl _,Ev.kM⟩ ?_
 rintro mm L Z1 A' hz1 ⟨i,us,v3,hi,rfl,hul,hus,hsub,hk⟩
 refine Wk.drop hsub ?_
 refine Wk.kp hk ?_
 clear hk hsub
 have h1:=h.mono hz1
 have se1:=se.mono hz1
 refine Ev.gT ?_
 refine Wk.cond rfl (fun hc=>?_) (fun hc=>?_)
 ·have hlt:i < t.elems.length:=by simp at hc;omega
  clear hc
  refine Ev.gT ?_
  refine Wk.olNil 1 ?_
  refine Wk.loop (fun mm L Z' A'=>∃ (j:Nat) (l:List Bool) (v5:Value),j≤t.elems.length∧mm=t.elems.length - j∧l.length=j∧(∀ c:Nat,c < j→(l[c]?=some true↔t.Bl i c))∧Z1=Z'∧Sub A' [ol 1 v5 j (l.map Value.bool),ol 1 v3 i us,pt _ (.cells [.string nm,ve,va,vw] true 0)]∧Kp L [(1,.pointer (some ⟨_,0,none⟩)),(3,v3),(4,.int .i64 i),(5,v5),(6,.int .i64 j)]) t.elems.length ⟨0,[],_,Nat.zero_le _,rfl,rfl,fun c h=>by omega,rfl,Sub.refl _,Ev.kM⟩ ?_
  rintro mm L Z' A' - ⟨j,l,v5,hj,rfl,hll,hl,rfl,hsub,hk⟩
  refine Wk.drop hsub ?_
  refine Wk.kp hk ?_
  clear hk hsub
  refine Ev.gT ?_
  refine Wk.cond rfl (fun hc=>?_) (fun hc=>?_)
  ·have hlj:j < t.elems.length:=by simp at hc;omega
   clear hc
   refine Ev.gT ?_
   refine Wk.call rfl rfl (Spl.none _) (rIsBelow h1 ht ok i j hlt hlj hok) rfl rfl rfl ?_
   rintro v' Z' A' hz ⟨⟨b,rfl,hb⟩,rfl,rfl⟩
   refine Ev.gT ?_
   refine Wk.bs rfl rfl rfl rfl rfl rfl rfl fun b26=>?_
   refine Wk.append rfl rfl rfl rfl rfl rfl rfl rfl Ev.rM (Src.lit Ev.hM rfl) rfl rfl rfl Ev.wM Ev.wM rfl rfl rfl fun v27=>?_
   refine Ev.gT ?_
   refine Wk.inv ⟨_,by omega,j+1,l++[b],v27,hlj,rfl,by simp [hll],fun c hc=>?_,rfl,by rw [List.map_append];exact .keep (.drop (Sub.refl _)),Ev.kM⟩
   by_cases e:c=j
   ·subst e
    rw [←hb,←hll];simp
   ·rw [List.getElem?_append_left Ev.wM];exact hl c Ev.wM
  ·have hjn:j=t.elems.length:=by simp at hc;omega
   subst hjn
   clear hc
   first|refine Wk.knowr Ev.rM (fun s h=>ol.form (v:=v5) h) ?_|refine Wk.know Ev.rM (fun s h=>ol.form (v:=v5) h) ?_
   rintro ⟨a5,c5,rfl⟩
   first|apply Wk.olFreezer (v:=.slice a5 t.elems.length c5)|apply Wk.olFreeze (v:=.slice a5 t.elems.length c5)
   case p=>repeat (first|exact Rem.head|apply Rem.tail)
   intro Z2 e2 s5
   refine Ev.gT ?_
   refine Wk.bs rfl rfl rfl rfl rfl rfl rfl fun b30=>?_
   refine Wk.append rfl rfl rfl rfl rfl rfl rfl rfl Ev.rM (Src.lit Ev.hM rfl) rfl rfl rfl Ev.wM Ev.wM rfl rfl rfl fun v31=>?_
   refine Ev.gT ?_
   refine Wk.inv ⟨_,by omega,i+1,us++[.slice a5 t.elems.length c5],v31,hlt,rfl,by simp [hul],fun a ha=>?_,.keep (.drop (Sub.refl _)),Ev.kM⟩
   by_cases e:a=i
   ·subst e
    exact ⟨_,l,by rw [←hul];simp,s5,hll,hl⟩
   ·obtain ⟨u,l',k1,k2,k3⟩:=hus a Ev.wM
    exact ⟨u,l',by rw [List.getElem?_append_left Ev.wM];exact k1,k2.mono e2,k3⟩
 ·have hin:i=t.elems.length:=by simp at hc;omega
  subst hin
  first|apply Wk.olFreezer (v:=v3)|apply Wk.olFreeze (v:=v3)
  case p=>repeat (first|exact Rem.head|apply Rem.tail)
  intro Z2 e2 s3
  refine Ev.gT ?_
  exact Wk.ret ⟨_,Rs.tmp rfl Rs.nil,_,Sub.none _,⟨us,s3,fun a ha=>let ⟨u,l,k1,k2,k3⟩:=hus a ha;⟨u,l,k1,k2.mono e2,k3⟩⟩,rfl⟩
theorem rBounds {Z:Zone} {v:Value} {t:Tbl} (h:RelR Z v t) (ok:t.Ok) (a b:Nat) (ha:a < t.elems.length) (hb:b < t.elems.length) :
  Cz M (.func (.func 160) #[] #[]) [v,.int .i64 a,.int .i64 b] Z [] (fun v' Z' A'=>Z=Z'∧∃ l:List Nat,Whe t.elems.length (fun c=>t.Bl a c∧t.Bl b c) l∧A'=[ol 1 v' l.length (nats l)]):=by
 obtain ⟨us,hs,hr⟩:=h
 obtain ⟨ua,la,ga,sa,na,ra⟩:=RelR.row hr a ha
 obtain ⟨ub,lb,gb,sb,nb,rb⟩:=RelR.row hr b hb
 have hn:=ok.2.2.1
 refine Cz.fn (f:=Tryz.f160) Ev.cM rfl rfl rfl _ rfl ?_
 refine Ev.gT ?_
 refine Wk.olNil 1 ?_
 refine Wk.loop (fun mm L Z' A'=>∃ (j:Nat) (l:List Nat) (v7:Value),j≤t.elems.length∧mm=t.elems.length - j∧Z=Z'∧Whe j (fun c=>t.Bl a c∧t.Bl b c) l∧Sub A' [ol 1 v7 l.length (nats l)]∧Kp L [(0,v),(1,.int .i64 a),(2,.int .i64 b),(7,v7),(8,.int .i64 j)]) t.elems.length ⟨0,[],_,Nat.zero_le _,rfl,rfl,Whe.nil,Sub.refl _,Ev.kM⟩ ?_
 rintro mm L Z' A' - ⟨j,l,v7,hj,rfl,rfl,hw,hsub,hk⟩
 refine Wk.drop hsub ?_
 refine Wk.kp hk ?_
 clear hk hsub
 have hl:=hw.len
 refine Ev.gT ?_
 refine Wk.cond rfl (fun hc=>?_) (fun hc=>?_)
 ·have hlt:j < t.elems.length:=by simp at hc;omega
  clear hc
  have hja:j < la.length:=by omega
  have hjb:j < lb.length:=by omega
  repeat first|refine go ?_|with_reducible intro _
  refine Wk.caser 22 rfl (fun h1=>?_) (fun h1=>?_)
  ·repeat first|refine go ?_|with_reducible intro _
   refine Wk.cond rfl (fun h2=>?_) (fun h2=>?_)
   ·refine Ev.gT ?_
    refine Wk.bs rfl rfl rfl rfl rfl rfl rfl fun b33=>?_
    refine Wk.append rfl rfl rfl rfl rfl rfl rfl rfl Ev.rM (Src.lit Ev.hM rfl) rfl rfl rfl Ev.wM Ev.wM rfl rfl rfl fun v34=>?_
    refine Ev.gT ?_
    exact Wk.inv ⟨_,by omega,j+1,l++[j],v34,hlt,rfl,rfl,hw.snoc ⟨(ra j hja).1 h1,(rb j hjb).1 h2⟩,by rw [nats_snoc,List.length_append];exact .keep (Sub.none _),Ev.kM⟩
   ·refine Ev.gT ?_
    exact Wk.inv ⟨_,by omega,j+1,l,v7,hlt,rfl,rfl,hw.skip (fun h=>by rw [(rb j hjb).2 h.2] at h2;cases h2),Sub.refl _,Ev.kM⟩
  ·refine Ev.gT ?_
   exact Wk.inv ⟨_,by omega,j+1,l,v7,hlt,rfl,rfl,hw.skip (fun h=>by rw [(ra j hja).2 h.1] at h1;cases h1),Sub.refl _,Ev.kM⟩
 ·have hjn:j=t.elems.length:=by simp at hc;omega
  subst hjn
  refine Ev.gT ?_
  exact Wk.ret ⟨_,Rs.tmp rfl Rs.nil,_,Sub.refl _,rfl,l,hw,rfl⟩
theorem rLeast {Z:Zone} {v vl:Value} {t:Tbl} {l:List Nat} (h:RelR Z v t) (ok:t.Ok) (sl:Sl Z 1 vl l.length (nats l)) (hl:l.length≤1000000) (hin:∀ x∈l,x < t.elems.length) :
  Cz M (.func (.func 159) #[] #[]) [v,vl] Z [] (fun v' Z' A'=>(∃ r:Int,v'=.int .i64 r∧((∃ c:Nat,c∈l∧r=c∧∀ d∈l,t.Bl c d)∨(r=-1∧∀ c∈l,¬ ∀ d∈l,t.Bl c d)))∧Z=Z'∧A'=[]):=by
 obtain ⟨us,hs,hr⟩:=h
 refine Cz.fn (f:=Tryz.f159) Ev.cM rfl rfl rfl _ rfl ?_
 refine Ev.gT ?_
 refine Wk.loop (fun mm L Z' A'=>∃ i:Nat,i≤l.length∧mm=l.length - i∧Z=Z'∧Sub A' []∧(∀ x,x < i→∀ hx:x < l.length,¬ ∀ d∈l,t.Bl l[x] d)∧Kp L [(0,v),(1,vl),(5,.int .i64 i)]) (l.length) ⟨0,Nat.zero_le _,rfl,rfl,Ev.sM,fun x h=>by omega,Ev.kM⟩ ?_
 rintro mm L Z' A' - ⟨i,hji,rfl,rfl,hsub,invi,hk⟩
 refine Wk.drop hsub ?_
 refine Wk.kp hk ?_
 clear hk hsub
 refine Ev.gT ?_
 refine Wk.cond rfl (fun hc=>?_) (fun hc=>?_)
 ·have hlt:i < l.length:=by simp at hc;omega
  clear hc
  have hri:l[i] < t.elems.length:=hin _ (List.getElem_mem hlt)
  obtain ⟨u,lb,gu,su,nu,ru⟩:=RelR.row hr l[i] hri
  have hgi:getCells (nats l) (i*1) 1=some [.int .i64 (l[i]:Nat)]:=getCells_one (by rw [Nat.mul_one];exact nats_get hlt)
  refine Ev.gT ?_
  refine Wk.loop (fun mm L Z' A'=>∃ (k:Nat) (f:Bool),k≤l.length∧mm=l.length - k∧Z=Z'∧Sub A' []∧(f=true↔∀ x,x < k→∀ hx:x < l.length,t.Bl l[i] l[x])∧Kp L [(0,v),(1,vl),(5,.int .i64 i),(6,.bool f),(7,.int .i64 k)]) l.length ⟨0,true,Nat.zero_le _,rfl,rfl,Sub.none _,by simp,Ev.kM⟩ ?_
  rintro mm L Z' A' - ⟨k,f,hk1,rfl,rfl,hsub,hf,hk⟩
  refine Wk.drop hsub ?_
  refine Wk.kp hk ?_
  clear hk hsub
  refine Ev.gT ?_
  refine Wk.cond rfl (fun hc=>?_) (fun hc=>?_)
  ·have hlk:k < l.length:=by simp at hc;omega
   clear hc
   have hrk:l[k] < t.elems.length:=hin _ (List.getElem_mem hlk)
   have hrb:l[k] < lb.length:=by omega
   have hgk:getCells (nats l) (k*1) 1=some [.int .i64 (l[k]:Nat)]:=getCells_one (by rw [Nat.mul_one];exact nats_get hlk)
   refine Ev.gT ?_
   refine Wk.drawr (ms:=[0,1,3,3,3,27,59,127,255,3,3,1539,3587,8191,16383,32767,65535]) (l:=[0,1,2,3,4,5,6,7,8,9,10,11,12,13,14,15,16]) Ev.cM Ev.cM Ev.cM rfl ?_
   refine Ev.gT ?_
   refine Wk.caser 21 rfl (fun h1=>?_) (fun h1=>?_)
   ·repeat first|refine go ?_|with_reducible intro _
    refine Wk.inv ⟨_,by omega,k+1,lb[l[k]],hlk,rfl,rfl,Sub.none _,?_,Ev.kM⟩
    rw [ru _ hrb]
    constructor
    ·intro h x hx hxl
     by_cases e:x=k
     ·subst e;exact h
     ·exact hf.1 h1 x Ev.wM hxl
    ·intro h;exact h k Ev.wM hlk
   ·refine Ev.gT ?_
    refine Wk.inv ⟨_,by omega,k+1,false,hlk,rfl,rfl,Sub.none _,?_,Ev.kM⟩
    simp only [Bool.false_eq_true,false_iff]
    intro h
    rw [hf.2 fun x hx hxl=>h x Ev.wM hxl] at h1;cases h1
  ·have hkl:k=l.length:=by simp at hc;omega
   subst hkl
   have hf':f=true↔∀ d∈l,t.Bl l[i] d:=by
    rw [hf]
    constructor
    ·intro h d hd;obtain ⟨x,hx,rfl⟩:=List.getElem_of_mem hd;exact h x hx hx
    ·intro h x _ hx;exact h _ (List.getElem_mem hx)
   refine Ev.gT ?_
   refine Wk.cond rfl (fun hd=>?_) (fun hd=>?_)
   ·repeat first|refine go ?_|with_reducible intro _
    refine Wk.ret ⟨_,Rs.tmp rfl Rs.nil,_,Sub.none _,⟨_,rfl,.inl ⟨l[i],List.getElem_mem hlt,rfl,hf'.1 hd⟩⟩,rfl,rfl⟩
   ·refine Ev.gT ?_
    refine Wk.inv ⟨_,by omega,i+1,by omega,rfl,rfl,Ev.sM,(nextP invi (fun _ h=>by rw [hf'.2 h] at hd;cases hd)),Ev.kM⟩
 ·have hno:∀ c∈l,¬ ∀ d∈l,t.Bl c d:=fun c hcl=>by
   obtain ⟨x,hx,rfl⟩:=List.getElem_of_mem hcl
   exact invi x (by simp at hc;omega) hx
  refine Ev.gT ?_
  refine Wk.ret ⟨_,Rs.tmp rfl Rs.nil,_,Sub.none _,⟨_,rfl,.inr ⟨rfl,hno⟩⟩,rfl,rfl⟩
end Go.Proofs.J
namespace Go.Proofs.J
open Go.Ev Go
theorem rBreak {Z:Zone} {nm:ByteArray} {a1 a2 a3:Option Addr} {m1 c1 m2 c2 m3 c3:Nat} {t:Tbl} (h:TbR Z nm (.slice a1 m1 c1) (.slice a2 m2 c2) (.slice a3 m3 c3) t) (ht:t.Sm) (ok:t.Ok) :
  Cz M (.func (.func 186) #[] #[]) [.agg ⟨[.string nm,.slice a1 m1 c1,.slice a2 m2 c2,.slice a3 m3 c3]⟩] Z [] (fun v' Z' A'=>(∃ k x y:Int,v'=.agg ⟨brk k x y⟩∧(k=0↔t.Lat))∧Z=Z'∧A'=[]):=by
 refine Cz.shrink ?_
 have hn:=ok.2.2.1
 have hn1:=ok.2.1
 have se:=h.elems
 have hm1:m1=t.elems.length:=by
  rcases se with ⟨e,h0,_⟩|⟨b,off,c,xs,wr,g,e,_⟩
  ·cases e;exact h0.symm
  ·cases e;rfl
 subst hm1
 have sw:=h.wrong
 have hwl:=ok.2.2.2.2.1
 have hwr:∀ a (ha:a < t.wrong.length),t.wr a↔t.wrong[a]=true:=fun a ha=>by rw [Tbl.wr,List.getElem?_eq_getElem ha];simp
 refine Cz.fn (f:=Tryz.f186) Ev.cM rfl rfl rfl _ rfl ?_
 repeat first|refine go ?_|with_reducible intro _
 rename_i b1 b2
 refine Wk.drawr (ms:=[0,1,3,0,8,31,63]) (l:=[0,1,2,3,4,5,6]) Ev.cM Ev.cM Ev.cM rfl ?_
 refine Ev.gT ?_
 refine Wk.callD rfl rfl (Spl.none _) (rRel h ht ok rfl) rfl rfl fun v4 Z1 A' hz1 hq=>?_
 obtain ⟨hR,rfl⟩:=hq
 refine ⟨?_,?_⟩
 ·exact Ev.pM0
 have h:=h.mono hz1
 have sw:=sw.mono hz1
 refine Ev.gT ?_
 refine Wk.loop (fun mm L Z' A'=>∃ a:Nat,a≤t.elems.length∧mm=t.elems.length - a∧Z1=Z'∧Sub A' [pt b2 (.cells (brk 0 0 0) true 0),pt b1 (.cells [.string nm,.slice a1 t.elems.length c1,.slice a2 m2 c2,.slice a3 m3 c3] true 0)]∧(∀ x,x < a→¬ t.St x x)∧Kp L [(1,.pointer (some ⟨b1,0,none⟩)),(2,.pointer (some ⟨b2,0,none⟩)),(3,.int .i64 t.elems.length),(4,v4),(5,.int .i64 a)]) t.elems.length ⟨0,Nat.zero_le _,rfl,rfl,Sub.refl _,fun x hx=>by omega,Ev.kM⟩ ?_
 rintro mm L Z' A' - ⟨a,ha,rfl,rfl,hsub,p1,hk⟩
 refine Wk.drop hsub ?_
 refine Wk.kp hk ?_
 clear hk hsub
 refine Ev.gT ?_
 refine Wk.cond rfl (fun hc=>?_) (fun hc=>?_)
 ·have hlt:a < t.elems.length:=by simp at hc;omega
  clear hc
  refine Ev.gT ?_
  refine Wk.call rfl rfl (Spl.none _) (rSteps h ht ok a a hlt hlt) rfl rfl rfl ?_
  rintro v' Z' A' hz ⟨⟨b,rfl,hb⟩,rfl,rfl⟩
  refine Ev.gT ?_
  refine Wk.cond rfl (fun hc=>?_) (fun hc=>?_)
  ·refine Ev.gT ?_
   exact Wk.ret ⟨_,Rs.cell rfl rfl Ev.hM rfl rfl Rs.nil,_,Sub.none _,⟨1,a,0,rfl,by simp;exact fun hl=>hl.1 a hlt (hb.1 hc)⟩,rfl⟩
  ·refine Ev.gT ?_
   exact Wk.inv ⟨_,by omega,a+1,hlt,rfl,rfl,Sub.refl _,nextP p1 (fun h=>by rw [hb.2 h] at hc;cases hc),Ev.kM⟩
 have p1':∀ x,x < t.elems.length→¬ t.St x x:=fun x hx=>p1 x (by simp at hc;omega)
 clear p1 hc
 obtain ⟨us,hus,hrow⟩:=hR
 obtain ⟨u0,l0,g0,s0,n0,r0⟩:=RelR.row hrow 0 Ev.wM
 have hR:RelR Z1 v4 t:=⟨us,hus,hrow⟩
 refine Ev.gT ?_
 refine Wk.loop (fun mm L Z' A'=>∃ a:Nat,a≤t.elems.length∧mm=t.elems.length - a∧Z1=Z'∧Sub A' [pt b2 (.cells (brk 0 0 0) true 0),pt b1 (.cells [.string nm,.slice a1 t.elems.length c1,.slice a2 m2 c2,.slice a3 m3 c3] true 0)]∧(∀ x,x < a→t.Bl 0 x)∧Kp L [(1,.pointer (some ⟨b1,0,none⟩)),(2,.pointer (some ⟨b2,0,none⟩)),(3,.int .i64 t.elems.length),(4,v4),(6,.int .i64 a)]) t.elems.length ⟨0,Nat.zero_le _,rfl,rfl,Sub.refl _,fun x hx=>by omega,Ev.kM⟩ ?_
 rintro mm L Z' A' - ⟨a,ha,rfl,rfl,hsub,p2,hk⟩
 refine Wk.drop hsub ?_
 refine Wk.kp hk ?_
 clear hk hsub
 refine Ev.gT ?_
 refine Wk.cond rfl (fun hc=>?_) (fun hc=>?_)
 ·have hlt:a < t.elems.length:=by simp at hc;omega
  have hll:a < l0.length:=by omega
  clear hc
  have g0':getCells us (0*1) 1=some [u0]:=g0
  repeat first|refine go ?_|with_reducible intro _
  refine Wk.cond rfl (fun hc=>?_) (fun hc=>?_)
  ·refine Ev.gT ?_
   exact Wk.ret ⟨_,Rs.cell rfl rfl Ev.hM rfl rfl Rs.nil,_,Sub.none _,⟨2,a,0,rfl,by simp;exact fun hl=>by rw [(r0 a hll).2 (hl.2.1 a hlt)] at hc;cases hc⟩,rfl⟩
  ·refine Ev.gT ?_
   exact Wk.inv ⟨_,by omega,a+1,hlt,rfl,rfl,Sub.refl _,nextP p2 ((r0 a hll).1 (by simpa using hc)),Ev.kM⟩
 have p2':∀ x,x < t.elems.length→t.Bl 0 x:=fun x hx=>p2 x (by simp at hc;omega)
 clear p2 hc
 refine Ev.gT ?_
 refine Wk.loop (fun mm L Z' A'=>∃ a:Nat,a≤t.elems.length∧mm=t.elems.length - a∧Sub A' [pt b2 (.cells (brk 0 0 0) true 0),pt b1 (.cells [.string nm,.slice a1 t.elems.length c1,.slice a2 m2 c2,.slice a3 m3 c3] true 0)]∧(∀ x,x < a→∀ y,x < y→y < t.elems.length→∃ c,t.Jn x y c)∧Kp L [(1,.pointer (some ⟨b1,0,none⟩)),(2,.pointer (some ⟨b2,0,none⟩)),(3,.int .i64 t.elems.length),(4,v4),(7,.int .i64 a)]) t.elems.length ⟨0,Nat.zero_le _,rfl,Sub.refl _,fun x hx=>by omega,Ev.kM⟩ ?_
 rintro mm L Z2 A' hz2 ⟨a,ha,rfl,hsub,p3,hk⟩
 refine Wk.drop hsub ?_
 refine Wk.kp hk ?_
 clear hk hsub
 refine Ev.gT ?_
 refine Wk.cond rfl (fun hc=>?_) (fun hc=>?_)
 ·have hlt:a < t.elems.length:=by simp at hc;omega
  clear hc
  refine Ev.gT ?_
  refine Wk.loop (fun mm L Z' A'=>∃ b:Nat,a < b∧b≤t.elems.length∧mm=t.elems.length - b∧Sub A' [pt b2 (.cells (brk 0 0 0) true 0),pt b1 (.cells [.string nm,.slice a1 t.elems.length c1,.slice a2 m2 c2,.slice a3 m3 c3] true 0)]∧(∀ y,y < b→a < y→∃ c,t.Jn a y c)∧Kp L [(1,.pointer (some ⟨b1,0,none⟩)),(2,.pointer (some ⟨b2,0,none⟩)),(3,.int .i64 t.elems.length),(4,v4),(7,.int .i64 a),(8,.int .i64 b)]) (t.elems.length - (a+1)) ⟨a+1,by omega,by omega,rfl,Sub.refl _,fun y hy1 hy2=>by omega,Ev.kM⟩ ?_
  rintro mm L Z3 A' hz3 ⟨b,hab,hbl,rfl,hsub,p4,hk⟩
  refine Wk.drop hsub ?_
  refine Wk.kp hk ?_
  clear hk hsub
  have hR3:=hR.mono (hz2.trans hz3)
  refine Ev.gT ?_
  refine Wk.cond rfl (fun hc=>?_) (fun hc=>?_)
  ·have hlb:b < t.elems.length:=by simp at hc;omega
   clear hc
   refine Ev.gT ?_
   refine Wk.call rfl rfl (Spl.none _) (rBounds hR3 ok a b hlt hlb) rfl rfl rfl ?_
   rintro v57 Z' A' hz ⟨rfl,l,hw,rfl⟩
   have hll:=hw.len
   have hjn:∀ c,t.Jn a b c↔c∈l∧∀ d∈l,t.Bl c d:=by
    intro c
    have hm:=fun x=>hw.mem x
    constructor
    ·rintro ⟨h1,h2,h3,h4⟩
     exact ⟨(hm c).2 ⟨h1,h2,h3⟩,fun d hd=>have:=(hm d).1 hd;h4 d this.1 this.2.1 this.2.2⟩
    ·rintro ⟨h1,h2⟩
     have:=(hm c).1 h1
     exact ⟨this.1,this.2.1,this.2.2,fun d k1 k2 k3=>h2 d ((hm d).2 ⟨k1,k2,k3⟩)⟩
   refine Ev.gT ?_
   refine Wk.cond rfl (fun hc=>?_) (fun hc=>?_)
   ·have hl0:l=[]:=by simpa using hc
    have nl:¬ t.Lat:=fun hl=>by
     obtain ⟨c,hj⟩:=hl.2.2.1 a b hab hlb
     have:=((hjn c).1 hj).1
     rw [hl0] at this;cases this
    refine Ev.gT ?_
    exact Wk.ret ⟨_,Rs.cell rfl rfl Ev.hM rfl rfl Rs.nil,_,Sub.none _,⟨3,a,b,rfl,by simp [nl]⟩,rfl⟩
   ·first|apply Wk.olFreezer (v:=v57)|apply Wk.olFreeze (v:=v57)
    case p=>repeat (first|exact Rem.head|apply Rem.tail)
    intro Z4 e4 s57
    refine Ev.gT ?_
    refine Wk.call rfl rfl (Spl.none _) (rLeast (hR3.mono e4) ok s57 Ev.wM (fun x hx=>((hw.mem x).1 hx).1)) rfl rfl rfl ?_
    rintro v' Z' A' hz ⟨⟨r,rfl,hr⟩,rfl,rfl⟩
    rcases hr with ⟨c,hcl,rfl,hd⟩|⟨rfl,hno⟩
    ·refine Ev.gT ?_
     exact Wk.inv ⟨_,by omega,b+1,by omega,hlb,rfl,Sub.refl _,fun y hy1 hy2=>by
      by_cases e:y=b
      ·subst e;exact ⟨c,(hjn c).2 ⟨hcl,hd⟩⟩
      ·exact p4 y Ev.wM hy2,Ev.kM⟩
    ·have nl:¬ t.Lat:=fun hl=>by
      obtain ⟨c,hj⟩:=hl.2.2.1 a b hab hlb
      exact hno c ((hjn c).1 hj).1 ((hjn c).1 hj).2
     refine Ev.gT ?_
     exact Wk.ret ⟨_,Rs.cell rfl rfl Ev.hM rfl rfl Rs.nil,_,Sub.none _,⟨4,a,b,rfl,by simp [nl]⟩,rfl⟩
  ·refine Ev.gT ?_
   exact Wk.inv ⟨_,by omega,a+1,hlt,rfl,Sub.refl _,nextP p3 (fun y hy1 hy2=>p4 y (by simp at hc;omega) hy1),Ev.kM⟩
 have p3':∀ x y,x < y→y < t.elems.length→∃ c,t.Jn x y c:=fun x y hxy hy=>p3 x (by simp at hc;omega) y hxy hy
 clear p3 hc
 have sw:=sw.mono hz2
 have hR2:=hR.mono hz2
 obtain ⟨us,hus,hrow⟩:=hR2
 have hw0:0 < t.wrong.length:=by omega
 repeat first|refine go ?_|with_reducible intro _
 refine Wk.cond rfl (fun hc=>?_) (fun hc=>?_)
 ·refine Ev.gT ?_
  exact Wk.ret ⟨_,Rs.cell rfl rfl Ev.hM rfl rfl Rs.nil,_,Sub.none _,⟨5,0,0,rfl,by simp;exact fun hl=>hl.2.2.2.1 ((hwr 0 hw0).2 hc)⟩,rfl⟩
 have p4:¬ t.wr 0:=fun h=>by rw [(hwr 0 hw0).1 h] at hc;cases hc
 clear hc
 refine Ev.gT ?_
 refine Wk.loop (fun mm L Z' A'=>∃ a:Nat,a≤t.elems.length∧mm=t.elems.length - a∧Z2=Z'∧Sub A' [pt b2 (.cells (brk 0 0 0) true 0),pt b1 (.cells [.string nm,.slice a1 t.elems.length c1,.slice a2 m2 c2,.slice a3 m3 c3] true 0)]∧(∀ x,x < a→∀ y,y < t.elems.length→t.wr x→t.Bl x y→t.wr y)∧Kp L [(1,.pointer (some ⟨b1,0,none⟩)),(2,.pointer (some ⟨b2,0,none⟩)),(3,.int .i64 t.elems.length),(4,v4),(10,.int .i64 a)]) t.elems.length ⟨0,Nat.zero_le _,rfl,rfl,Sub.refl _,fun x hx=>by omega,Ev.kM⟩ ?_
 rintro mm L Z' A' - ⟨a,ha,rfl,rfl,hsub,p5,hk⟩
 refine Wk.drop hsub ?_
 refine Wk.kp hk ?_
 clear hk hsub
 refine Ev.gT ?_
 refine Wk.cond rfl (fun hc=>?_) (fun hc=>?_)
 ·have hlt:a < t.elems.length:=by simp at hc;omega
  clear hc
  obtain ⟨ua,la,ga,sa,na,ra⟩:=RelR.row hrow a hlt
  have haw:a < t.wrong.length:=by omega
  refine Ev.gT ?_
  refine Wk.loop (fun mm L Z' A'=>∃ b:Nat,b≤t.elems.length∧mm=t.elems.length - b∧Z2=Z'∧Sub A' [pt b2 (.cells (brk 0 0 0) true 0),pt b1 (.cells [.string nm,.slice a1 t.elems.length c1,.slice a2 m2 c2,.slice a3 m3 c3] true 0)]∧(∀ y,y < b→t.wr a→t.Bl a y→t.wr y)∧Kp L [(1,.pointer (some ⟨b1,0,none⟩)),(2,.pointer (some ⟨b2,0,none⟩)),(3,.int .i64 t.elems.length),(4,v4),(10,.int .i64 a),(11,.int .i64 b)]) t.elems.length ⟨0,Nat.zero_le _,rfl,rfl,Sub.refl _,fun x hx=>by omega,Ev.kM⟩ ?_
  rintro mm L Z' A' - ⟨b,hb,rfl,rfl,hsub,p6,hk⟩
  refine Wk.drop hsub ?_
  refine Wk.kp hk ?_
  clear hk hsub
  refine Ev.gT ?_
  refine Wk.cond rfl (fun hc=>?_) (fun hc=>?_)
  ·have hlb:b < t.elems.length:=by simp at hc;omega
   clear hc
   have hbw:b < t.wrong.length:=by omega
   have hbl:b < la.length:=by omega
   have nx:(t.wr a→t.Bl a b→t.wr b)→∀ y,y < b+1→t.wr a→t.Bl a y→t.wr y:=fun h=>nextP p6 h
   repeat first|refine go ?_|with_reducible intro _
   refine Wk.caser 91 rfl (fun h1=>?_) (fun h1=>?_)
   ·repeat first|refine go ?_|with_reducible intro _
    refine Wk.caser 99 rfl (fun h2=>?_) (fun h2=>?_)
    ·repeat first|refine go ?_|with_reducible intro _
     refine Wk.cond rfl (fun h3=>?_) (fun h3=>?_)
     ·have nl:¬ t.Lat:=fun hl=>by
       have:=(hwr b hbw).1 (hl.2.2.2.2 a b hlt hlb ((hwr a haw).2 h1) ((ra b hbl).1 h3))
       rw [this] at h2;cases h2
      refine Ev.gT ?_
      exact Wk.ret ⟨_,Rs.cell rfl rfl Ev.hM rfl rfl Rs.nil,_,Sub.none _,⟨5,a,b,rfl,by simp [nl]⟩,rfl⟩
     ·refine Ev.gT ?_
      exact Wk.inv ⟨_,by omega,b+1,hlb,rfl,rfl,Sub.refl _,nx (fun _ h=>by rw [(ra b hbl).2 h] at h3;cases h3),Ev.kM⟩
    ·refine Ev.gT ?_
     exact Wk.inv ⟨_,by omega,b+1,hlb,rfl,rfl,Sub.refl _,nx (fun _ _=>(hwr b hbw).2 (by simpa using h2)),Ev.kM⟩
   ·refine Ev.gT ?_
    exact Wk.inv ⟨_,by omega,b+1,hlb,rfl,rfl,Sub.refl _,nx (fun h=>by rw [(hwr a haw).1 h] at h1;cases h1),Ev.kM⟩
  ·refine Ev.gT ?_
   exact Wk.inv ⟨_,by omega,a+1,hlt,rfl,rfl,Sub.refl _,nextP p5 (fun y hy=>p6 y (by simp at hc;omega)),Ev.kM⟩
 ·have hl:t.Lat:=⟨p1',p2',p3',p4,fun x y hx hy=>p5 x (by simp at hc;omega) y hy⟩
  refine Ev.gT ?_
  exact Wk.ret ⟨_,Rs.cell rfl rfl Ev.hM rfl rfl Rs.nil,_,Sub.none _,⟨0,0,0,rfl,by simp [hl]⟩,rfl⟩
theorem rProve {Z:Zone} {nm:ByteArray} {a1 a2 a3:Option Addr} {m1 c1 m2 c2 m3 c3:Nat} {t:Tbl} (h:TbR Z nm (.slice a1 m1 c1) (.slice a2 m2 c2) (.slice a3 m3 c3) t) (ht:t.Sm) :
  Cz M (.func (.func 148) #[] #[]) [.agg ⟨[.string nm,.slice a1 m1 c1,.slice a2 m2 c2,.slice a3 m3 c3]⟩] Z [] (fun v' Z' A'=>ProveR t v'∧Z=Z'∧A'=[]):=by
 refine Cz.shrink ?_
 refine Cz.fn (f:=Tryz.f148) Ev.cM rfl rfl rfl _ rfl ?_
 repeat first|refine go ?_|with_reducible intro _
 refine Wk.call rfl rfl (Spl.none _) (rCheck h ht) rfl rfl rfl ?_
 rintro v' Z' A' hz ⟨hE,rfl,rfl⟩
 rcases hE with ⟨ok,rfl⟩|⟨nok,rfl⟩
 ·refine Ev.gT ?_
  refine Wk.call rfl rfl (Spl.none _) (rBreak h ht ok) rfl rfl rfl ?_
  rintro v' Z' A' hz ⟨⟨k,x,y,rfl,hk⟩,rfl,rfl⟩
  repeat first|refine go ?_|with_reducible intro _
  refine Wk.cond rfl (fun hc=>?_) (fun hc=>?_)
  ·have hk0:k≠0:=by simpa using hc
   refine Ev.gT ?_
   refine Wk.ret ⟨_,Rs.cell rfl rfl Ev.hM rfl rfl (Rs.tmp rfl Rs.nil),_,Sub.none _,⟨_,_,_,_,rfl,?_⟩,rfl⟩
   have:¬ t.Lat:=fun hl=>hk0 (hk.2 hl)
   simp [this]
  ·have hk0:k=0:=by simpa using hc
   refine Ev.gT ?_
   refine Wk.ret ⟨_,Rs.cell rfl rfl Ev.hM rfl rfl (Rs.tmp rfl Rs.nil),_,Sub.none _,⟨_,_,_,_,rfl,?_⟩,rfl⟩
   simp [ok,hk.1 hk0]
 ·refine Ev.gT ?_
  refine Wk.ret ⟨_,Rs.cell rfl rfl Ev.hM rfl rfl (Rs.tmp rfl Rs.nil),_,Sub.none _,⟨_,_,_,_,rfl,?_⟩,rfl⟩
  simp [nok]
theorem rIsLattice {Z:Zone} {nm:ByteArray} {a1 a2 a3:Option Addr} {m1 c1 m2 c2 m3 c3:Nat} {t:Tbl} (h:TbR Z nm (.slice a1 m1 c1) (.slice a2 m2 c2) (.slice a3 m3 c3) t) (ht:t.Sm) :
  Cz M (.func (.func 93) #[] #[]) [.agg ⟨[.string nm,.slice a1 m1 c1,.slice a2 m2 c2,.slice a3 m3 c3]⟩] Z [] (fun v' Z' A'=>(∃ e:Int,v'=.int .i64 e∧(e=0↔t.Ok∧t.Lat))∧Z=Z'∧A'=[]):=by
 refine Cz.fn (f:=Tryz.f93) Ev.cM rfl rfl rfl _ rfl ?_
 repeat first|refine go ?_|with_reducible intro _
 refine Wk.call rfl rfl (Spl.none _) (rProve h ht) rfl rfl rfl ?_
 rintro v' Z' A' hz ⟨⟨k,x,y,e,rfl,he⟩,rfl,rfl⟩
 repeat first|refine go ?_|with_reducible intro _
 refine Wk.ret ⟨_,Rs.tmp rfl Rs.nil,_,Sub.none _,⟨e,rfl,he⟩,rfl,rfl⟩
theorem rLevels:∀ (d:Nat) {s:Shp} {Z:Zone} {cs:List Value},s.levels≤d→d≤1000000→Shp.Sm d s→ShR Z s cs →
  Cz M (.func (.func 90) #[] #[]) [.agg ⟨cs⟩] Z [] (fun v' Z' A'=>v'=.int .i64 (s.levels:Nat)∧Z=Z'∧A'=[])
 | 0,s,Z,cs,hd,_,_,_=>by have:=s.levels_pos;omega
 | d+1,s,Z,cs,hd,hd1,hsm,h=>by
  obtain ⟨a,c,us,rfl,hs,hL⟩:=h.form
  have hlv:s.levels=levelsL s.kids+1:=by cases s;simp only [Shp.levels,Shp.kids]
  have hkl:=hsm.2.1
  refine Cz.fn (f:=Tryz.f90) Ev.cM rfl rfl rfl _ rfl ?_
  repeat first|refine go ?_|with_reducible intro _
  rename_i b1
  refine Wk.loop (fun mm L Z' A'=>∃ j:Nat,j≤s.kids.length∧mm=s.kids.length - j∧Z=Z'∧Sub A' [pt b1 (.cells [.int .u8 s.kind,.string s.name,.slice a s.kids.length c] true 0)]∧Kp L [(1,.pointer (some ⟨b1,0,none⟩)),(3,.int .i64 (levelsL (s.kids.take j):Nat)),(4,.int .i64 j)]) s.kids.length ⟨0,Nat.zero_le _,rfl,rfl,Sub.refl _,Ev.kM⟩ ?_
  rintro mm L Z' A' - ⟨j,hj,rfl,rfl,hsub,hk⟩
  refine Wk.drop hsub ?_
  refine Wk.kp hk ?_
  clear hk hsub
  refine Ev.gT ?_
  refine Wk.cond rfl (fun hc=>?_) (fun hc=>?_)
  ·have hlt:j < s.kids.length:=by simp at hc;omega
   obtain ⟨k,n,a1,m1,c1,g1,r1⟩:=hL.get j hlt
   have hkd:=s.kid_levels hd hlt
   repeat first|refine go ?_|with_reducible intro _
   refine Wk.call rfl rfl (Spl.none _) (rLevels d hkd Ev.wM (hsm.2.2 _ (List.getElem_mem hlt)) r1) rfl rfl rfl ?_
   rintro v' Z' A' hz ⟨rfl,rfl,rfl⟩
   refine Ev.gT ?_
   refine Wk.inv ⟨_,by omega,j+1,hlt,rfl,rfl,Sub.refl _,rfl,?_,rfl,trivial⟩
   refine eqI ?_
   rw [levelsL_take hlt]
   split<;>omega
  ·have hj:j=s.kids.length:=by simp at hc;omega
   subst hj
   have e:s.kids.take s.kids.length=s.kids:=List.take_length
   rw [e]
   refine Ev.gT ?_
   refine Wk.ret ⟨_,Rs.tmp rfl Rs.nil,_,Sub.none _,by rw [hlv];rfl,rfl,rfl⟩
end Go.Proofs.J
namespace Go.Proofs.J
open Go.Ev Go
theorem rKids {Z:Zone} (k:Int):Cz M (.func (.func 144) #[] #[]) [.int .u8 k] Z [] (fun v' Z' A'=>(∃ r:Int,v'=.int .i64 r∧∀ m:Nat,r=m↔kidsOf k=some m)∧Z=Z'∧A'=[]):=by
 have fin:∀ (r:Nat),kidsOf k=some r→∃ q:Int,(outOf [.int .i64 (r:Int)])=.int .i64 q∧∀ m:Nat,q=m↔kidsOf k=some m:=fun r h=>⟨r,rfl,fun m=>by rw [h];simp;omega⟩
 by_cases h1:k=1
 ·subst h1
  refine Cz.fn (f:=Tryz.f144) Ev.cM rfl rfl rfl _ rfl ?_
  refine Ev.gT ?_
  refine Wk.ret ⟨_,Rs.tmp rfl Rs.nil,_,Sub.none _,fin 0 (by simp [kidsOf]),rfl,rfl⟩
 by_cases h2:k=2
 ·subst h2
  refine Cz.fn (f:=Tryz.f144) Ev.cM rfl rfl rfl _ rfl ?_
  refine Ev.gT ?_
  refine Wk.ret ⟨_,Rs.tmp rfl Rs.nil,_,Sub.none _,fin 0 (by simp [kidsOf]),rfl,rfl⟩
 by_cases h3:k=3
 ·subst h3
  refine Cz.fn (f:=Tryz.f144) Ev.cM rfl rfl rfl _ rfl ?_
  refine Ev.gT ?_
  refine Wk.ret ⟨_,Rs.tmp rfl Rs.nil,_,Sub.none _,fin 0 (by simp [kidsOf]),rfl,rfl⟩
 by_cases h4:k=4
 ·subst h4
  refine Cz.fn (f:=Tryz.f144) Ev.cM rfl rfl rfl _ rfl ?_
  refine Ev.gT ?_
  refine Wk.ret ⟨_,Rs.tmp rfl Rs.nil,_,Sub.none _,fin 0 (by simp [kidsOf]),rfl,rfl⟩
 by_cases h5:k=5
 ·subst h5
  refine Cz.fn (f:=Tryz.f144) Ev.cM rfl rfl rfl _ rfl ?_
  refine Ev.gT ?_
  refine Wk.ret ⟨_,Rs.tmp rfl Rs.nil,_,Sub.none _,fin 0 (by simp [kidsOf]),rfl,rfl⟩
 by_cases h6:k=6
 ·subst h6
  refine Cz.fn (f:=Tryz.f144) Ev.cM rfl rfl rfl _ rfl ?_
  refine Ev.gT ?_
  refine Wk.ret ⟨_,Rs.tmp rfl Rs.nil,_,Sub.none _,fin 1 (by simp [kidsOf]),rfl,rfl⟩
 by_cases h7:k=7
 ·subst h7
  refine Cz.fn (f:=Tryz.f144) Ev.cM rfl rfl rfl _ rfl ?_
  refine Ev.gT ?_
  refine Wk.ret ⟨_,Rs.tmp rfl Rs.nil,_,Sub.none _,fin 2 (by simp [kidsOf]),rfl,rfl⟩
 ·refine Cz.fn (f:=Tryz.f144) Ev.cM rfl rfl rfl _ rfl ?_
  refine Ev.gT ?_
  refine Wk.cond rfl (fun hc=>absurd hc (by simp [h1])) (fun _=>?_)
  refine Ev.gT ?_
  refine Wk.cond rfl (fun hc=>absurd hc (by simp [h2])) (fun _=>?_)
  refine Ev.gT ?_
  refine Wk.cond rfl (fun hc=>absurd hc (by simp [h3])) (fun _=>?_)
  refine Ev.gT ?_
  refine Wk.cond rfl (fun hc=>absurd hc (by simp [h4])) (fun _=>?_)
  refine Ev.gT ?_
  refine Wk.cond rfl (fun hc=>absurd hc (by simp [h5])) (fun _=>?_)
  refine Ev.gT ?_
  refine Wk.cond rfl (fun hc=>absurd hc (by simp [h6])) (fun _=>?_)
  refine Ev.gT ?_
  refine Wk.cond rfl (fun hc=>absurd hc (by simp [h7])) (fun _=>?_)
  refine Ev.gT ?_
  refine Wk.ret ⟨_,Rs.tmp rfl Rs.nil,_,Sub.none _,⟨-1,rfl,fun m=>by simp [kidsOf,h1,h2,h3,h4,h5,h6,h7]⟩,rfl,rfl⟩
theorem rIsForm:∀ (d:Nat) {s:Shp} {Z:Zone} {cs:List Value},s.levels≤d→d≤1000000→Shp.Sm d s→ShR Z s cs →
  Cz M (.func (.func 91) #[] #[]) [.agg ⟨cs⟩] Z [] (fun v' Z' A'=>Bis v' s.Ok∧Z=Z'∧A'=[])
 | 0,s,Z,cs,hd,_,_,_=>by have:=s.levels_pos;omega
 | d+1,s,Z,cs,hd,hd1,hsm,h=>by
  obtain ⟨a,c,us,rfl,hs,hL⟩:=h.form
  have hnm:=hsm.1
  have hkl:=hsm.2.1
  have hOk:s.Ok↔kidsOf s.kind=some s.kids.length∧(s.kind=5→IsTableName s.name)∧(s.kind≠5→s.name.size=0)∧∀ k∈s.kids,k.Ok:=by
   cases s;simp only [Shp.Ok,Shp.kind,Shp.name,Shp.kids,ShpOkL_iff]
  have eT:IsTableName ByteArray.empty→False:=fun h=>by have:=h.1.1;revert this;decide
  refine Cz.fn (f:=Tryz.f91) Ev.cM rfl rfl rfl _ rfl ?_
  repeat first|refine go ?_|with_reducible intro _
  rename_i b1
  refine Wk.drawr (ms:=[0,1,3,0,8,24,63,127,255,511,1023,255,2303,6399,16383,32767,65535,131071,262143,524287,1048575,2097151,4194303,8388607,16777215,33554431]) (l:=[0,1,2,3,4,5,6,7,8,9,10,11,12,13,14,15,16,17,18,19,20,21,22,23,24,25]) Ev.cM Ev.cM Ev.cM rfl ?_
  refine Ev.gT ?_
  refine Wk.callD rfl rfl (Spl.none _) (rKids s.kind) rfl rfl fun v9 Z1 A' hz hq=>?_
  obtain ⟨⟨r,rfl,hr⟩,rfl,rfl⟩:=hq
  refine ⟨?_,?_⟩
  ·exact Ev.pM0
  have hr:=hr s.kids.length
  refine Ev.gT ?_
  refine Wk.caser 11 rfl (fun hc=>?_) (fun hc=>?_)
  ·refine Ev.gT ?_
   refine Wk.ret ⟨_,Rs.tmp rfl Rs.nil,_,Sub.none _,Bis.of (by simp only [Bool.false_eq_true,false_iff];intro ok;have:=hr.2 (hOk.1 ok).1;simp at hc;omega),rfl,rfl⟩
  have hk:=hr.1 (by simp at hc;omega)
  clear hc hr
  refine Ev.gT ?_
  refine Wk.callD rfl rfl (Spl.none _) (rIsTable s.name hnm) rfl rfl fun v17 Z1 A' hz hq=>?_
  obtain ⟨⟨b,rfl,hb⟩,rfl,rfl⟩:=hq
  refine ⟨?_,?_⟩
  ·exact Ev.pM0
  refine Ev.gT ?_
  refine Wk.caser 20 rfl (fun hc=>?_) (fun hc=>?_)
  ·refine Ev.gT ?_
   refine Wk.ret ⟨_,Rs.tmp rfl Rs.nil,_,Sub.none _,Bis.of ?_,rfl,rfl⟩
   simp only [Bool.false_eq_true,false_iff]
   intro ok
   by_cases h5:s.kind=5
   ·have:=hb.2 ((hOk.1 ok).2.1 h5)
    subst this
    simp [h5] at hc
   ·have hb0:b=false:=by
     cases b with
     | false=>rfl
     | true=>exact (eT (size0.1 ((hOk.1 ok).2.2.1 h5)▸hb.1 rfl)).elim
    subst hb0
    simp [h5] at hc
  have h5T:s.kind=5↔IsTableName s.name:=by
   rw [←hb]
   by_cases h5:s.kind=5<;>cases b<;>simp [h5] at hc ⊢
  clear hc
  have fin:(s.kind≠5→s.name.size=0)→(s.Ok↔∀ k∈s.kids,k.Ok):=fun h=>by
   rw [hOk];exact ⟨fun h=>h.2.2.2,fun h'=>⟨hk,fun h=>h5T.1 h,h,h'⟩⟩
  refine Ev.gT ?_
  have hs0:(s.name.toList==({ data:=#[] }:ByteArray).toList)=true↔s.name.size=0:=by rw [strEq];exact size0.symm
  first|refine Wk.cut (fun L Z' A'=>Z=Z'∧Sub A' [pt b1 (.cells [.int .u8 s.kind,.string s.name,.slice a s.kids.length c] true 0)]∧Kp L [(1,.pointer (some ⟨b1,0,none⟩)),(29,.bool (decide (s.kind≠5∧s.name.size≠0)))]) ?_ ?_|refine Wk.cutr (fun L Z' A'=>Z=Z'∧Sub A' [pt b1 (.cells [.int .u8 s.kind,.string s.name,.slice a s.kids.length c] true 0)]∧Kp L [(1,.pointer (some ⟨b1,0,none⟩)),(29,.bool (decide (s.kind≠5∧s.name.size≠0)))]) ?_ ?_
  ·refine Wk.caser 24 rfl (fun hc=>?_) (fun hc=>?_)
   ·have h5:s.kind≠5:=by simpa using hc
    refine Ev.gT ?_
    refine Wk.inv ⟨rfl,Ev.sM,⟨rfl,eqBp (by simp only [ne_eq,h5,not_false_eq_true,true_and,←hs0];simp),trivial⟩⟩
   ·have h5:s.kind=5:=by simpa using hc
    refine Ev.gT ?_
    refine Wk.inv ⟨rfl,Ev.sM,⟨rfl,eqBp (by simp [h5]),trivial⟩⟩
  rintro L Z' A' - ⟨rfl,hsub,hk⟩
  refine Wk.drop hsub ?_
  refine Wk.kp hk ?_
  clear hk hsub
  refine Wk.cond rfl (fun hc=>?_) (fun hc=>?_)
  ·refine Ev.gT ?_
   refine Wk.ret ⟨_,Rs.tmp rfl Rs.nil,_,Sub.none _,Bis.of (by simp only [Bool.false_eq_true,false_iff];intro ok;have hc:=of_decide_eq_true hc;exact hc.2 ((hOk.1 ok).2.2.1 hc.1)),rfl,rfl⟩
  have hN:s.kind≠5→s.name.size=0:=fun h=>Classical.byContradiction fun h'=>(of_decide_eq_false hc) ⟨h,h'⟩
  have fin:=fin hN
  clear hc
  refine Ev.gT ?_
  refine Wk.loop (fun mm L Z' A'=>∃ j:Nat,j≤s.kids.length∧mm=s.kids.length - j∧Z=Z'∧Sub A' [pt b1 (.cells [.int .u8 s.kind,.string s.name,.slice a s.kids.length c] true 0)]∧(∀ x,x < j→∀ hx:x < s.kids.length,s.kids[x].Ok)∧Kp L [(1,.pointer (some ⟨b1,0,none⟩)),(3,.int .i64 j)]) s.kids.length ⟨0,Nat.zero_le _,rfl,rfl,Sub.refl _,fun x hx=>by omega,Ev.kM⟩ ?_
  rintro mm L Z' A' - ⟨j,hj,rfl,rfl,hsub,inv,hk'⟩
  refine Wk.drop hsub ?_
  refine Wk.kp hk' ?_
  clear hk' hsub
  refine Ev.gT ?_
  refine Wk.cond rfl (fun hc=>?_) (fun hc=>?_)
  ·have hlt:j < s.kids.length:=by simp at hc;omega
   clear hc
   obtain ⟨k,n,a1,m1,c1,g1,r1⟩:=hL.get j hlt
   have hkd:=s.kid_levels hd hlt
   repeat first|refine go ?_|with_reducible intro _
   refine Wk.call rfl rfl (Spl.none _) (rIsForm d hkd Ev.wM (hsm.2.2 _ (List.getElem_mem hlt)) r1) rfl rfl rfl ?_
   rintro v' Z' A' hz ⟨⟨f,rfl,hf⟩,rfl,rfl⟩
   refine Ev.gT ?_
   refine Wk.cond rfl (fun hc=>?_) (fun hc=>?_)
   ·refine Ev.gT ?_
    refine Wk.ret ⟨_,Rs.tmp rfl Rs.nil,_,Sub.none _,Bis.of (by simp only [Bool.false_eq_true,false_iff];intro ok;rw [hf.2 (fin.1 ok _ (List.getElem_mem hlt))] at hc;cases hc),rfl,rfl⟩
   ·refine Ev.gT ?_
    exact Wk.inv ⟨_,by omega,j+1,hlt,rfl,rfl,Sub.refl _,nextP inv (fun _=>hf.1 (by simpa using hc)),Ev.kM⟩
  ·have hall:∀ k∈s.kids,k.Ok:=fun k hk=>by
    obtain ⟨x,hx,rfl⟩:=List.getElem_of_mem hk
    exact inv x (by simp at hc;omega) hx
   refine Ev.gT ?_
   refine Wk.ret ⟨_,Rs.tmp rfl Rs.nil,_,Sub.none _,Bis.of (by simp only [true_iff];exact fin.2 hall),rfl,rfl⟩
theorem rNumber {Z:Zone} {v:Value} {ts:List Tbl} (x:ByteArray) (s:TbsR Z v ts) (hn:ts.length≤1000000) :
  Cz M (.func (.func 89) #[] #[]) [v,.string x] Z [] (fun v' Z' A'=>(∃ r:Int,v'=.int .i64 r∧((∃ i:Nat,∃ h:i < ts.length,r=i∧ts[i].name=x∧∀ j (hj:j < i),ts[j].name≠x)∨(r=-1∧∀ t∈ts,t.name≠x)))∧Z=Z'∧A'=[]):=by
 obtain ⟨us,hs,hrow⟩:=s
 refine Cz.fn (f:=Tryz.f89) Ev.cM rfl rfl rfl _ rfl ?_
 refine Ev.gT ?_
 refine Wk.loop (fun mm L Z' A'=>∃ j:Nat,j≤ts.length∧mm=ts.length - j∧Z=Z'∧Sub A' []∧(∀ i,i < j→∀ h:i < ts.length,ts[i].name≠x)∧Kp L [(0,v),(1,.string x),(5,.int .i64 j)]) (ts.length) ⟨0,Nat.zero_le _,rfl,rfl,Ev.sM,fun i h=>by omega,Ev.kM⟩ ?_
 rintro mm L Z' A' - ⟨j,hjj,rfl,rfl,hsub,invj,hk⟩
 refine Wk.drop hsub ?_
 refine Wk.kp hk ?_
 clear hk hsub
 refine Ev.gT ?_
 refine Wk.cond rfl (fun hc=>?_) (fun hc=>?_)
 ·have hlt:j < ts.length:=by simp at hc;omega
  obtain ⟨nm,a1,m1,c1,a2,m2,c2,a3,m3,c3,g1,g2⟩:=hrow j hlt
  obtain rfl:=g2.name
  repeat first|refine go ?_|with_reducible intro _
  refine Wk.cond rfl (fun hc=>?_) (fun hc=>?_)
  ·refine Ev.gT ?_
   refine Wk.ret ⟨_,Rs.tmp rfl Rs.nil,_,Sub.none _,⟨_,rfl,.inl ⟨j,hlt,rfl,strEq.1 hc,fun i hi=>invj i hi _⟩⟩,rfl,rfl⟩
  ·refine Ev.gT ?_
   refine Wk.inv ⟨_,by omega,j+1,by omega,rfl,rfl,Ev.sM,(nextP invj (fun h e=>by rw [strEq.2 e] at hc;cases hc)),Ev.kM⟩
 ·have hno:∀ t∈ts,t.name≠x:=fun t ht=>by
   obtain ⟨i,hi,rfl⟩:=List.getElem_of_mem ht
   exact invj i (by simp at hc;omega) hi
  refine Ev.gT ?_
  refine Wk.ret ⟨_,Rs.tmp rfl Rs.nil,_,Sub.none _,⟨_,rfl,.inr ⟨rfl,hno⟩⟩,rfl,rfl⟩
theorem rNamed:∀ (d:Nat) {s:Shp} {Z:Zone} {cs:List Value} {v:Value} {ts:List Tbl},s.levels≤d→d≤1000000→Shp.Sm d s→ShR Z s cs→TbsR Z v ts→ts.length≤1000000 →
  Cz M (.func (.func 94) #[] #[]) [v,.agg ⟨cs⟩] Z [] (fun v' Z' A'=>Bis v' (s.Named ts)∧Z=Z'∧A'=[])
 | 0,s,Z,cs,v,ts,hd,_,_,_,_,_=>by have:=s.levels_pos;omega
 | d+1,s,Z,cs,v,ts,hd,hd1,hsm,h,ht,hn=>by
  obtain ⟨a,c,us,rfl,hs,hL⟩:=h.form
  have hnm:=hsm.1
  have hkl:=hsm.2.1
  have hN:s.Named ts↔(s.kind=5→∃ t∈ts,t.name=s.name)∧∀ k∈s.kids,k.Named ts:=by
   cases s;simp only [Shp.Named,Shp.kind,Shp.name,Shp.kids,ShpNamedL_iff]
  refine Cz.fn (f:=Tryz.f94) Ev.cM rfl rfl rfl _ rfl ?_
  repeat first|refine go ?_|with_reducible intro _
  rename_i b1
  have rest:∀ {L:Lo},True:=trivial
  first|refine Wk.cut (fun L Z' A'=>Z=Z'∧Sub A' [pt b1 (.cells [.int .u8 s.kind,.string s.name,.slice a s.kids.length c] true 0)]∧Kp L [(0,v),(3,.pointer (some ⟨b1,0,none⟩)),(15,.bool (decide (s.kind=5∧∀ t∈ts,t.name≠s.name)))]) ?_ ?_|refine Wk.cutr (fun L Z' A'=>Z=Z'∧Sub A' [pt b1 (.cells [.int .u8 s.kind,.string s.name,.slice a s.kids.length c] true 0)]∧Kp L [(0,v),(3,.pointer (some ⟨b1,0,none⟩)),(15,.bool (decide (s.kind=5∧∀ t∈ts,t.name≠s.name)))]) ?_ ?_
  ·refine Wk.caser 9 rfl (fun hc=>?_) (fun hc=>?_)
   ·have h5:s.kind=5:=by simpa using hc
    refine Ev.gT ?_
    refine Wk.call rfl rfl (Spl.none _) (rNumber s.name ht hn) rfl rfl rfl ?_
    rintro v' Z' A' hz ⟨⟨r,rfl,hr⟩,rfl,rfl⟩
    refine Ev.gT ?_
    refine Wk.inv ⟨rfl,Ev.sM,rfl,rfl,eqBp ?_,trivial⟩
    rcases hr with ⟨i,hi,rfl,e,_⟩|⟨rfl,hno⟩
    ·constructor
     ·intro h;simp at h;omega
     ·intro h;exact absurd e (h.2 _ (List.getElem_mem hi))
    ·exact ⟨fun _=>⟨h5,hno⟩,fun _=>rfl⟩
   ·have h5:s.kind≠5:=by simpa using hc
    refine Ev.gT ?_
    refine Wk.inv ⟨rfl,Ev.sM,⟨rfl,rfl,eqBp (by simp [h5]),trivial⟩⟩
  rintro L Z' A' - ⟨rfl,hsub,hk⟩
  refine Wk.drop hsub ?_
  refine Wk.kp hk ?_
  clear hk hsub
  refine Wk.cond rfl (fun hc=>?_) (fun hc=>?_)
  ·refine Ev.gT ?_
   refine Wk.ret ⟨_,Rs.tmp rfl Rs.nil,_,Sub.none _,Bis.of (by simp only [Bool.false_eq_true,false_iff];intro ok;have hc:=of_decide_eq_true hc;obtain ⟨t,ht,e⟩:=(hN.1 ok).1 hc.1;exact hc.2 t ht e),rfl,rfl⟩
  have hnm5:s.kind=5→∃ t∈ts,t.name=s.name:=fun h5=>Classical.byContradiction fun h'=>(of_decide_eq_false hc) ⟨h5,fun t ht e=>h' ⟨t,ht,e⟩⟩
  clear hc
  refine Ev.gT ?_
  refine Wk.loop (fun mm L Z' A'=>∃ j:Nat,j≤s.kids.length∧mm=s.kids.length - j∧Z=Z'∧Sub A' [pt b1 (.cells [.int .u8 s.kind,.string s.name,.slice a s.kids.length c] true 0)]∧(∀ x,x < j→∀ hx:x < s.kids.length,s.kids[x].Named ts)∧Kp L [(0,v),(3,.pointer (some ⟨b1,0,none⟩)),(5,.int .i64 j)]) s.kids.length ⟨0,Nat.zero_le _,rfl,rfl,Sub.refl _,fun x hx=>by omega,Ev.kM⟩ ?_
  rintro mm L Z' A' - ⟨j,hj,rfl,rfl,hsub,inv,hk'⟩
  refine Wk.drop hsub ?_
  refine Wk.kp hk' ?_
  clear hk' hsub
  refine Ev.gT ?_
  refine Wk.cond rfl (fun hc=>?_) (fun hc=>?_)
  ·have hlt:j < s.kids.length:=by simp at hc;omega
   clear hc
   obtain ⟨k,n,a1,m1,c1,g1,r1⟩:=hL.get j hlt
   have hkd:=s.kid_levels hd hlt
   repeat first|refine go ?_|with_reducible intro _
   refine Wk.call rfl rfl (Spl.none _) (rNamed d hkd Ev.wM (hsm.2.2 _ (List.getElem_mem hlt)) r1 ht hn) rfl rfl rfl ?_
   rintro v' Z' A' hz ⟨⟨f,rfl,hf⟩,rfl,rfl⟩
   refine Ev.gT ?_
   refine Wk.cond rfl (fun hc=>?_) (fun hc=>?_)
   ·refine Ev.gT ?_
    refine Wk.ret ⟨_,Rs.tmp rfl Rs.nil,_,Sub.none _,Bis.of (by simp only [Bool.false_eq_true,false_iff];intro ok;rw [hf.2 ((hN.1 ok).2 _ (List.getElem_mem hlt))] at hc;cases hc),rfl,rfl⟩
   ·refine Ev.gT ?_
    exact Wk.inv ⟨_,by omega,j+1,hlt,rfl,rfl,Sub.refl _,nextP inv (fun _=>hf.1 (by simpa using hc)),Ev.kM⟩
  ·have hall:∀ k∈s.kids,k.Named ts:=fun k hk=>by
    obtain ⟨x,hx,rfl⟩:=List.getElem_of_mem hk
    exact inv x (by simp at hc;omega) hx
   refine Ev.gT ?_
   refine Wk.ret ⟨_,Rs.tmp rfl Rs.nil,_,Sub.none _,Bis.of (by simp only [true_iff];exact hN.2 ⟨hnm5,hall⟩),rfl,rfl⟩
theorem rCheckShape {Z:Zone} {v:Value} {ts:List Tbl} {s:Shp} {cs:List Value} {d:Nat} (ht:TbsR Z v ts) (hn:ts.length≤1000000) (hsm:∀ t∈ts,t.Sm) (hs:ShR Z s cs) (hd:s.levels≤d) (hd1:d≤1000000) (hss:Shp.Sm d s) :
  Cz M (.func (.func 63) #[] #[]) [v,.agg ⟨cs⟩] Z [] (fun v' Z' A'=>v'=.int .i64 (CSE ts s)∧Z=Z'∧A'=[]):=by
 obtain ⟨av,cv,rfl⟩:=ht.form
 obtain ⟨ak,ck,usk,rfl,_,_⟩:=hs.form
 obtain ⟨us,hsl,hrow⟩:=ht
 have ht:TbsR Z (.slice av ts.length cv) ts:=⟨us,hsl,hrow⟩
 refine Cz.fn (f:=Tryz.f63) Ev.cM rfl rfl rfl _ rfl ?_
 repeat first|refine go ?_|with_reducible intro _
 rename_i b3
 refine Wk.caser 12 rfl (fun hc=>?_) (fun hc=>?_)
 ·refine Ev.gT ?_
  refine Wk.ret ⟨_,Rs.tmp rfl Rs.nil,_,Sub.none _,by unfold CSE;rw [if_pos (.inl (by simp at hc;omega))];rfl,rfl,rfl⟩
 have o1:¬ 8 < ts.length:=by simp at hc;omega
 clear hc
 refine Ev.gT ?_
 refine Wk.call rfl rfl (Spl.none _) (rLevels d hd hd1 hss hs) rfl rfl rfl ?_
 rintro v' Z' A' hz ⟨rfl,rfl,rfl⟩
 refine Ev.gT ?_
 refine Wk.cond rfl (fun hc=>?_) (fun hc=>?_)
 ·refine Ev.gT ?_
  refine Wk.ret ⟨_,Rs.tmp rfl Rs.nil,_,Sub.none _,by unfold CSE;rw [if_pos (.inr (by simp at hc;omega))];rfl,rfl,rfl⟩
 have o2:¬ (8 < ts.length∨4 < s.levels):=by simp at hc;omega
 clear hc
 refine Ev.gT ?_
 refine Wk.call rfl rfl (Spl.none _) (rIsForm d hd hd1 hss hs) rfl rfl rfl ?_
 rintro v' Z' A' hz ⟨⟨f0,rfl,hf0⟩,rfl,rfl⟩
 refine Ev.gT ?_
 refine Wk.loop (fun mm L Z' A'=>∃ (j:Nat) (f:Bool),j≤ts.length∧mm=ts.length - j∧Z=Z'∧Sub A' [pt b3 (.cells [.int .u8 s.kind,.string s.name,.slice ak s.kids.length ck] true 0)]∧(f=true↔s.Ok∧∀ x,x < j→∀ hx:x < ts.length,ts[x].Ok)∧Kp L [(0,.slice av ts.length cv),(3,.pointer (some ⟨b3,0,none⟩)),(5,.bool f),(6,.int .i64 j)]) ts.length ⟨0,f0,Nat.zero_le _,rfl,rfl,Sub.refl _,by rw [hf0];exact ⟨fun h=>⟨h,fun x hx=>by omega⟩,fun h=>h.1⟩,Ev.kM⟩ ?_
 rintro mm L Z' A' - ⟨j,f,hj,rfl,rfl,hsub,hf,hk'⟩
 refine Wk.drop hsub ?_
 refine Wk.kp hk' ?_
 clear hk' hsub
 refine Ev.gT ?_
 refine Wk.cond rfl (fun hc=>?_) (fun hc=>?_)
 ·have hlt:j < ts.length:=by simp at hc;omega
  clear hc
  obtain ⟨nm,a1,m1,c1,a2,m2,c2,a3,m3,c3,g1,g2⟩:=hrow j hlt
  refine Ev.gT ?_
  refine Wk.caser 26 rfl (fun hc=>?_) (fun hc=>?_)
  ·repeat first|refine go ?_|with_reducible intro _
   refine Wk.call rfl rfl (Spl.none _) (rCheck g2 (hsm _ (List.getElem_mem hlt))) rfl rfl rfl ?_
   rintro v' Z' A' hz ⟨hE,rfl,rfl⟩
   rcases hE with ⟨ok,rfl⟩|⟨nok,rfl⟩
   ·refine Ev.gT ?_
    refine Wk.inv ⟨_,by omega,j+1,_,hlt,rfl,rfl,Sub.refl _,?_,Ev.kM⟩
    have h0:=hf.1 hc
    simp only [BEq.rfl,true_iff]
    exact ⟨h0.1,nextP h0.2 fun _=>ok⟩
   ·refine Ev.gT ?_
    refine Wk.inv ⟨_,by omega,j+1,_,hlt,rfl,rfl,Sub.refl _,?_,Ev.kM⟩
    constructor
    ·intro h;exact absurd h (by decide)
    ·intro h;exact absurd (h.2 j Ev.wM hlt) nok
  ·refine Ev.gT ?_
   refine Wk.inv ⟨_,by omega,j+1,_,hlt,rfl,rfl,Sub.refl _,?_,Ev.kM⟩
   simp only [Bool.false_eq_true,false_iff]
   intro h
   rw [hf.2 ⟨h.1,fun x hx=>h.2 x Ev.wM⟩] at hc;cases hc
 have hjn:j=ts.length:=by simp at hc;omega
 subst hjn
 have hf':f=true↔(∀ t∈ts,t.Ok)∧s.Ok:=by
  rw [hf]
  constructor
  ·rintro ⟨h1,h2⟩
   exact ⟨fun t ht=>by obtain ⟨i,hi,rfl⟩:=List.getElem_of_mem ht;exact h2 i hi hi,h1⟩
  ·rintro ⟨h1,h2⟩
   exact ⟨h2,fun x _ hx=>h1 _ (List.getElem_mem hx)⟩
 clear hc
 refine Ev.gT ?_
 refine Wk.cond rfl (fun hc=>?_) (fun hc=>?_)
 ·refine Ev.gT ?_
  refine Wk.ret ⟨_,Rs.tmp rfl Rs.nil,_,Sub.none _,by unfold CSE;rw [if_neg o2,if_pos (fun h=>by rw [hf'.2 h] at hc;cases hc)];rfl,rfl,rfl⟩
 have o3:=hf'.1 (by simpa using hc)
 have o34:¬ ¬ ((∀ t∈ts,t.Ok)∧s.Ok):=fun h=>h o3
 clear hc
 refine Ev.gT ?_
 refine Wk.loop (fun mm L Z' A'=>∃ (j:Nat),j≤ts.length∧mm=ts.length - j∧Z=Z'∧Sub A' [pt b3 (.cells [.int .u8 s.kind,.string s.name,.slice ak s.kids.length ck] true 0)]∧(∀ x,x < j→∀ hx:x < ts.length,∀ y (hy:y < x),ts[y].name≠ts[x].name)∧Kp L [(0,.slice av ts.length cv),(3,.pointer (some ⟨b3,0,none⟩)),(7,.int .i64 j)]) ts.length ⟨0,Nat.zero_le _,rfl,rfl,Sub.refl _,fun x hx=>by omega,Ev.kM⟩ ?_
 rintro mm L Z' A' - ⟨j,hj,rfl,rfl,hsub,inv,hk'⟩
 refine Wk.drop hsub ?_
 refine Wk.kp hk' ?_
 clear hk' hsub
 refine Ev.gT ?_
 refine Wk.cond rfl (fun hc=>?_) (fun hc=>?_)
 ·have hlt:j < ts.length:=by simp at hc;omega
  clear hc
  obtain ⟨nm,a1,m1,c1,a2,m2,c2,a3,m3,c3,g1,g2⟩:=hrow j hlt
  obtain rfl:=g2.name
  repeat first|refine go ?_|with_reducible intro _
  refine Wk.call rfl rfl (Spl.none _) (rNumber ts[j].name ht hn) rfl rfl rfl ?_
  rintro v' Z' A' hz ⟨⟨r,rfl,hr⟩,rfl,rfl⟩
  have hr':r=j↔∀ y (hy:y < j),ts[y].name≠ts[j].name:=by
   rcases hr with ⟨k,hk,rfl,e,hno⟩|⟨_,hno⟩
   ·constructor
    ·intro e2
     obtain rfl:k=j:=by omega
     exact hno
    ·intro h
     rcases Nat.lt_trichotomy k j with q|q|q
     ·exact absurd e (h k q)
     ·rw [q]
     ·exact absurd rfl (hno j q)
   ·exact absurd rfl (hno _ (List.getElem_mem hlt))
  refine Ev.gT ?_
  refine Wk.cond rfl (fun hc=>?_) (fun hc=>?_)
  ·refine Ev.gT ?_
   refine Wk.ret ⟨_,Rs.tmp rfl Rs.nil,_,Sub.none _,by unfold CSE;rw [if_neg o2,if_neg o34,if_pos (fun h=>by have:=hr'.2 fun y hy=>h j y hlt hy;simp at hc;exact hc this)];rfl,rfl,rfl⟩
  ·refine Ev.gT ?_
   exact Wk.inv ⟨_,by omega,j+1,hlt,rfl,rfl,Sub.refl _,nextP inv (fun _=>hr'.1 (by simpa using hc)),Ev.kM⟩
 have o5':¬ ¬ (∀ i j (h:i < ts.length) (hj:j < i),ts[j].name≠ts[i].name):=fun h=>h fun i y hi hy=>inv i (by simp at hc;omega) hi y hy
 clear hc inv
 refine Ev.gT ?_
 refine Wk.loop (fun mm L Z' A'=>∃ (j:Nat),j≤ts.length∧mm=ts.length - j∧Z=Z'∧Sub A' [pt b3 (.cells [.int .u8 s.kind,.string s.name,.slice ak s.kids.length ck] true 0)]∧(∀ x,x < j→∀ hx:x < ts.length,ts[x].Lat)∧Kp L [(0,.slice av ts.length cv),(3,.pointer (some ⟨b3,0,none⟩)),(8,.int .i64 j)]) ts.length ⟨0,Nat.zero_le _,rfl,rfl,Sub.refl _,fun x hx=>by omega,Ev.kM⟩ ?_
 rintro mm L Z' A' - ⟨j,hj,rfl,rfl,hsub,inv,hk'⟩
 refine Wk.drop hsub ?_
 refine Wk.kp hk' ?_
 clear hk' hsub
 refine Ev.gT ?_
 refine Wk.cond rfl (fun hc=>?_) (fun hc=>?_)
 ·have hlt:j < ts.length:=by simp at hc;omega
  clear hc
  obtain ⟨nm,a1,m1,c1,a2,m2,c2,a3,m3,c3,g1,g2⟩:=hrow j hlt
  have hok:=o3.1 _ (List.getElem_mem hlt)
  repeat first|refine go ?_|with_reducible intro _
  refine Wk.call rfl rfl (Spl.none _) (rIsLattice g2 (hsm _ (List.getElem_mem hlt))) rfl rfl rfl ?_
  rintro v' Z' A' hz ⟨⟨e,rfl,he⟩,rfl,rfl⟩
  refine Ev.gT ?_
  refine Wk.cond rfl (fun hc=>?_) (fun hc=>?_)
  ·refine Ev.gT ?_
   refine Wk.ret ⟨_,Rs.tmp rfl Rs.nil,_,Sub.none _,by unfold CSE;rw [if_neg o2,if_neg o34,if_neg o5',if_pos (fun h=>by have:=he.2 ⟨hok,h _ (List.getElem_mem hlt)⟩;simp at hc;exact hc this)];rfl,rfl,rfl⟩
  ·refine Ev.gT ?_
   exact Wk.inv ⟨_,by omega,j+1,hlt,rfl,rfl,Sub.refl _,nextP inv (fun _=>(he.1 (by simpa using hc)).2),Ev.kM⟩
 have o6':¬ ¬ (∀ t∈ts,t.Lat):=fun h=>h fun t ht=>by
  obtain ⟨i,hi,rfl⟩:=List.getElem_of_mem ht
  exact inv i (by simp at hc;omega) hi
 clear hc inv
 refine Ev.gT ?_
 refine Wk.call rfl rfl (Spl.none _) (rNamed d hd hd1 hss hs ht hn) rfl rfl rfl ?_
 rintro v' Z' A' hz ⟨⟨b5,rfl,hb5⟩,rfl,rfl⟩
 refine Ev.gT ?_
 refine Wk.cond rfl (fun hc=>?_) (fun hc=>?_)
 ·refine Ev.gT ?_
  refine Wk.ret ⟨_,Rs.tmp rfl Rs.nil,_,Sub.none _,by unfold CSE;rw [if_neg o2,if_neg o34,if_neg o5',if_neg o6',if_pos (fun h=>by rw [hb5.2 h] at hc;cases hc)];rfl,rfl,rfl⟩
 have o7:¬ ¬ s.Named ts:=fun h=>h (hb5.1 (by simpa using hc))
 refine Ev.gT ?_
 refine Wk.ret ⟨_,Rs.tmp rfl Rs.nil,_,Sub.none _,by unfold CSE;rw [if_neg o2,if_neg o34,if_neg o5',if_neg o6',if_neg o7];rfl,rfl,rfl⟩
end Go.Proofs.J
namespace Go.Proofs.J
open Go.Ev Go
theorem thinShape:∀ (d:Nat) {s:Shp} {Z:Zone} {cs:List Value},d≤1000→ShR Z s cs →
  Cz M (.func (.func 50) #[] #[]) [.agg ⟨cs⟩,.int .i64 d] Z [] (fun v' Z' A'=>Bis v' (Shp.Thin d s)∧Z=Z'∧A'=[])
 | 0,s,Z,cs,hd,h=>by
  obtain ⟨a,c,us,rfl,hs,hL⟩:=h.form
  refine Cz.fn (f:=Tryz.f50) Ev.cM rfl rfl rfl _ rfl ?_
  repeat first|refine go ?_|with_reducible intro _
  refine Wk.ret ⟨_,Rs.tmp rfl Rs.nil,_,Sub.none _,Bis.of (by simp [Shp.Thin]),rfl,rfl⟩
 | d+1,s,Z,cs,hd,h=>by
  obtain ⟨a,c,us,rfl,hs,hL⟩:=h.form
  refine Cz.fn (f:=Tryz.f50) Ev.cM rfl rfl rfl _ rfl ?_
  repeat first|refine go ?_|with_reducible intro _
  rename_i b1
  refine Wk.caser 8 rfl (fun hc=>?_) (fun hc=>?_)
  ·exfalso;simp at hc;omega
  refine Ev.gT ?_
  refine Wk.caser 14 rfl (fun hc=>?_) (fun hc=>?_)
  ·refine Ev.gT ?_
   refine Wk.ret ⟨_,Rs.tmp rfl Rs.nil,_,Sub.none _,Bis.of (by simp only [Bool.false_eq_true,false_iff];intro h;have:=h.1;simp at hc;omega),rfl,rfl⟩
  have o1:s.kids.length≤4:=by simp at hc;omega
  refine Ev.gT ?_
  refine Wk.cond rfl (fun hc=>?_) (fun hc=>?_)
  ·refine Ev.gT ?_
   refine Wk.ret ⟨_,Rs.tmp rfl Rs.nil,_,Sub.none _,Bis.of (by simp only [Bool.false_eq_true,false_iff];intro h;have:=h.2.1;simp at hc;omega),rfl,rfl⟩
  have o2:s.name.size≤30:=by simp at hc;omega
  refine Ev.gT ?_
  refine Wk.loop (fun mm L Z' A'=>∃ j:Nat,j≤s.kids.length∧mm=s.kids.length - j∧Z=Z'∧Sub A' [pt b1 (.cells [.int .u8 s.kind,.string s.name,.slice a s.kids.length c] true 0)]∧(∀ x,x < j→∀ hx:x < s.kids.length,Shp.Thin d s.kids[x])∧Kp L [(1,.int .i64 ((d+1:Nat):Int)),(2,.pointer (some ⟨b1,0,none⟩)),(5,.int .i64 j)]) s.kids.length ⟨0,Nat.zero_le _,rfl,rfl,Sub.refl _,fun x hx=>by omega,Ev.kM⟩ ?_
  rintro mm L Z' A' - ⟨j,hj,rfl,rfl,hsub,inv,hk'⟩
  refine Wk.drop hsub ?_
  refine Wk.kp hk' ?_
  clear hk' hsub
  refine Ev.gT ?_
  refine Wk.cond rfl (fun hc=>?_) (fun hc=>?_)
  ·have hlt:j < s.kids.length:=by simp at hc;omega
   clear hc
   obtain ⟨k,n,a1,m1,c1,g1,r1⟩:=hL.get j hlt
   have e:((d+1:Nat):Int) - 1=(d:Int):=by omega
   repeat first|refine go ?_|with_reducible intro _
   refine Wk.tellr 33 (.int .i64 d) rfl (by rw [e]) ?_
   refine Wk.call rfl rfl (Spl.none _) (thinShape d Ev.wM r1) rfl rfl rfl ?_
   rintro v' Z' A' hz ⟨⟨f,rfl,hf⟩,rfl,rfl⟩
   refine Ev.gT ?_
   refine Wk.cond rfl (fun hc=>?_) (fun hc=>?_)
   ·refine Ev.gT ?_
    refine Wk.ret ⟨_,Rs.tmp rfl Rs.nil,_,Sub.none _,Bis.of (by simp only [Bool.false_eq_true,false_iff];intro h;rw [hf.2 (h.2.2 _ (List.getElem_mem hlt))] at hc;cases hc),rfl,rfl⟩
   ·refine Ev.gT ?_
    exact Wk.inv ⟨_,by omega,j+1,hlt,rfl,rfl,Sub.refl _,nextP inv (fun _=>hf.1 (by simpa using hc)),Ev.kM⟩
  ·have hall:∀ k∈s.kids,Shp.Thin d k:=fun k hk=>by
    obtain ⟨x,hx,rfl⟩:=List.getElem_of_mem hk
    exact inv x (by simp at hc;omega) hx
   refine Ev.gT ?_
   refine Wk.ret ⟨_,Rs.tmp rfl Rs.nil,_,Sub.none _,Bis.of (by simp only [true_iff];exact ⟨o1,o2,hall⟩),rfl,rfl⟩
theorem thinTable {Z:Zone} {nm:ByteArray} {ve va vw:Value} {t:Tbl} (h:TbR Z nm ve va vw t) :
  Cz M (.func (.func 51) #[] #[]) [.agg ⟨[.string nm,ve,va,vw]⟩] Z [] (fun v' Z' A'=>Bis v' t.Th∧Z=Z'∧A'=[]):=by
 obtain rfl:=h.name
 have se:=h.elems
 have sw:=h.wrong
 obtain ⟨us,sa,ra⟩:=h.above
 have no:∀ {Z':Zone},¬ t.Th→Bis (outOf [.bool false]) t.Th∧Z'=Z'∧([]:List SA)=[]:=fun h=>⟨Bis.of (by simpa using h),rfl,rfl⟩
 refine Cz.fn (f:=Tryz.f51) Ev.cM rfl rfl rfl _ rfl ?_
 repeat first|refine go ?_|with_reducible intro _
 rename_i b1
 refine Wk.caser 9 rfl (fun hc=>?_) (fun hc=>?_)
 ·refine Ev.gT ?_
  refine Wk.ret ⟨_,Rs.tmp rfl Rs.nil,_,Sub.none _,no fun h=>by have:=h.elems;simp at hc;omega⟩
 have o1:t.elems.length≤20:=by simp at hc;omega
 clear hc
 refine Ev.gT ?_
 refine Wk.caser 15 rfl (fun hc=>?_) (fun hc=>?_)
 ·refine Ev.gT ?_
  refine Wk.ret ⟨_,Rs.tmp rfl Rs.nil,_,Sub.none _,no fun h=>by have:=h.above;simp at hc;omega⟩
 have o2:t.above.length≤20:=by simp at hc;omega
 clear hc
 refine Ev.gT ?_
 refine Wk.caser 21 rfl (fun hc=>?_) (fun hc=>?_)
 ·refine Ev.gT ?_
  refine Wk.ret ⟨_,Rs.tmp rfl Rs.nil,_,Sub.none _,no fun h=>by have:=h.wrong;simp at hc;omega⟩
 have o3:t.wrong.length≤20:=by simp at hc;omega
 clear hc
 refine Ev.gT ?_
 refine Wk.cond rfl (fun hc=>?_) (fun hc=>?_)
 ·refine Ev.gT ?_
  refine Wk.ret ⟨_,Rs.tmp rfl Rs.nil,_,Sub.none _,no fun h=>by have:=h.name;simp at hc;omega⟩
 have o4:t.name.size≤30:=by simp at hc;omega
 clear hc
 refine Ev.gT ?_
 refine Wk.loop (fun mm L Z' A'=>∃ j:Nat,j≤t.elems.length∧mm=t.elems.length - j∧Z=Z'∧Sub A' [pt b1 (.cells [.string t.name,ve,va,vw] true 0)]∧(∀ x,x < j→∀ hx:x < t.elems.length,t.elems[x].size≤30)∧Kp L [(1,.pointer (some ⟨b1,0,none⟩)),(3,.int .i64 j)]) t.elems.length ⟨0,Nat.zero_le _,rfl,rfl,Sub.refl _,fun x hx=>by omega,Ev.kM⟩ ?_
 rintro mm L Z' A' - ⟨j,hj,rfl,rfl,hsub,inv,hk'⟩
 refine Wk.drop hsub ?_
 refine Wk.kp hk' ?_
 clear hk' hsub
 refine Ev.gT ?_
 refine Wk.cond rfl (fun hc=>?_) (fun hc=>?_)
 ·have hlt:j < t.elems.length:=by simp at hc;omega
  clear hc
  repeat first|refine go ?_|with_reducible intro _
  refine Wk.cond rfl (fun hc=>?_) (fun hc=>?_)
  ·refine Ev.gT ?_
   refine Wk.ret ⟨_,Rs.tmp rfl Rs.nil,_,Sub.none _,no fun h=>by have:=h.each j hlt;simp at hc;omega⟩
  ·refine Ev.gT ?_
   exact Wk.inv ⟨_,by omega,j+1,hlt,rfl,rfl,Sub.refl _,nextP inv (fun _=>by simp at hc;omega),Ev.kM⟩
 have o5:∀ x (hx:x < t.elems.length),t.elems[x].size≤30:=fun x hx=>inv x (by simp at hc;omega) hx
 clear hc inv
 refine Ev.gT ?_
 refine Wk.loop (fun mm L Z' A'=>∃ j:Nat,j≤t.above.length∧mm=t.above.length - j∧Z=Z'∧Sub A' [pt b1 (.cells [.string t.name,ve,va,vw] true 0)]∧(∀ x,x < j→∀ hx:x < t.above.length,t.above[x].length≤20)∧Kp L [(1,.pointer (some ⟨b1,0,none⟩)),(4,.int .i64 j)]) t.above.length ⟨0,Nat.zero_le _,rfl,rfl,Sub.refl _,fun x hx=>by omega,Ev.kM⟩ ?_
 rintro mm L Z' A' - ⟨j,hj,rfl,rfl,hsub,inv,hk'⟩
 refine Wk.drop hsub ?_
 refine Wk.kp hk' ?_
 clear hk' hsub
 refine Ev.gT ?_
 refine Wk.cond rfl (fun hc=>?_) (fun hc=>?_)
 ·have hlt:j < t.above.length:=by simp at hc;omega
  clear hc
  obtain ⟨u,ua,su⟩:=ra j hlt
  have hg:getCells us (j*1) 1=some [u]:=getCells_one (by rw [Nat.mul_one];exact ua)
  repeat first|refine go ?_|with_reducible intro _
  refine Wk.cond rfl (fun hc=>?_) (fun hc=>?_)
  ·refine Ev.gT ?_
   refine Wk.ret ⟨_,Rs.tmp rfl Rs.nil,_,Sub.none _,no fun h=>by have:=h.rows j hlt;simp at hc;omega⟩
  ·refine Ev.gT ?_
   exact Wk.inv ⟨_,by omega,j+1,hlt,rfl,rfl,Sub.refl _,nextP inv (fun _=>by simp at hc;omega),Ev.kM⟩
 have o6:∀ x (hx:x < t.above.length),t.above[x].length≤20:=fun x hx=>inv x (by simp at hc;omega) hx
 refine Ev.gT ?_
 refine Wk.ret ⟨_,Rs.tmp rfl Rs.nil,_,Sub.none _,Bis.of (by simp only [true_iff];exact ⟨o1,o2,o3,o4,o5,o6⟩),rfl,rfl⟩
end Go.Proofs.J
namespace Go.Proofs.J
open Go.Ev Go
end Go.Proofs.J
namespace Go.Proofs.J
open Go.Ev Go
theorem veq_str (s:ByteArray):veq (.string s) (.string s)=true:=by simp [veq,veq1];exact strBeq.2 rfl
theorem okCells_str (l:List ByteArray):okCells (l.map Value.string)=true:=by
 simp only [okCells,List.all_map,List.all_eq_true];intro x _;rfl
theorem ShR.of {Z:Zone} {s:Shp} {vk:Value} {ks:List Value} (h:Sl Z 3 vk s.kids.length ks) (k:ShRL Z s.kids ks):ShR Z s [.int .u8 s.kind,.string s.name,vk]:=by
 cases s;simp only [ShR];exact ⟨vk,ks,rfl,h,k⟩
theorem copyShape:∀ (d:Nat) {s:Shp} {Z:Zone} {cs:List Value},Shp.Thin d s→ShR Z s cs →
  Cz M (.func (.func 56) #[] #[]) [.agg ⟨cs⟩] Z [] (fun v' Z' A'=>∃ cs',v'=.agg ⟨cs'⟩∧ShR Z' s cs'∧A'=[])
 | 0,s,Z,cs,ht,h=>ht.elim
 | d+1,s,Z,cs,ht,h=>by
  obtain ⟨a,c,us,rfl,hs,hL⟩:=h.form
  obtain ⟨t1,t2,t3⟩:=ht
  refine Cz.fn (f:=Tryz.f56) Ev.cM rfl rfl rfl _ rfl ?_
  repeat first|refine go ?_|with_reducible intro _
  rename_i b1 b2 b3
  refine Wk.olNil 3 ?_
  refine Wk.loop (fun mm L Z' A'=>∃ (j:Nat) (vk:Value) (ks:List Value),j≤s.kids.length∧mm=s.kids.length - j∧Ext Z Z'∧A'=[ol 3 vk j ks,pt b3 (.cells [.int .u8 s.kind,.string s.name,vk] true 0),pt b2 _,pt b1 (.cells [.int .u8 s.kind,.string s.name,.slice a s.kids.length c] true 0)] ∧
   ShRL Z' (s.kids.take j) ks∧Kp L [(1,.pointer (some ⟨b1,0,none⟩)),(2,.pointer (some ⟨b2,0,none⟩)),(3,.pointer (some ⟨b3,0,none⟩)),(4,.int .i64 j)]) s.kids.length ⟨0,_,[],Nat.zero_le _,rfl,Ext.refl _,rfl,by simp [ShRL],Ev.kM⟩ ?_
  rintro mm L Z' A' - ⟨j,vk,ks,hj,rfl,hz,rfl,hks,hk⟩
  refine Wk.kp hk ?_
  clear hk
  have hs':=hs.mono hz
  refine Ev.gT ?_
  refine Wk.cond rfl (fun hc=>?_) (fun hc=>?_)
  ·have hlt:j < s.kids.length:=by simp at hc;omega
   clear hc
   obtain ⟨k,n,a1,m1,c1,g1,r1⟩:=hL.get j hlt
   refine Ev.gT ?_
   refine Wk.drawr (ms:=[0,1,0,4,0,28,60,124,252,511,1023,2047]) (l:=[0,1,2,3,4,5,6,7,8,9,10,11]) Ev.cM Ev.cM Ev.cM rfl ?_
   first|refine Wk.knowr Ev.rM (fun s h=>ol.form (v:=vk) h) ?_|refine Wk.know Ev.rM (fun s h=>ol.form (v:=vk) h) ?_
   rintro ⟨aB,cB,rfl⟩
   repeat first|refine go ?_|with_reducible intro _
   refine Wk.callD rfl rfl (Spl.none _) (copyShape d (t3 _ (List.getElem_mem hlt)) (r1.mono hz)) rfl rfl fun v24 Z2 A' hz2 hq=>?_
   obtain ⟨cs',rfl,hR,rfl⟩:=hq
   refine ⟨?_,?_⟩
   ·exact Ev.pM0
   obtain ⟨a2,c2,us2,rfl,_,_⟩:=hR.form
   refine Ev.gT ?_
   refine Wk.bs (cs:=[.int .u8 s.kids[j].kind,.string s.kids[j].name,.slice a2 s.kids[j].kids.length c2]) rfl rfl rfl rfl rfl rfl rfl fun b50=>?_
   refine Wk.append (kk:=1) (new:=[.int .u8 s.kids[j].kind,.string s.kids[j].name,.slice a2 s.kids[j].kids.length c2]) rfl rfl rfl rfl rfl rfl rfl rfl Ev.rM (Src.lit Ev.hM rfl) rfl rfl rfl Ev.wM Ev.wM Ev.cM rfl rfl fun v51=>?_
   refine Wk.dropr (.keep (.drop (Sub.refl _))) ?_
   first|refine Wk.knowr Ev.rM (fun s h=>ol.form (v:=v51) h) ?_|refine Wk.know Ev.rM (fun s h=>ol.form (v:=v51) h) ?_
   rintro ⟨a51,c51,rfl⟩
   refine Ev.gT ?_
   refine Wk.inv ⟨_,by omega,j+1,_,_,hlt,rfl,hz.trans hz2,rfl,?_,Ev.kM⟩
   rw [List.take_succ_eq_append_getElem hlt]
   exact ShRL.snoc hR (hks.mono hz2)
  ·have hjd:j=s.kids.length:=by simp at hc;omega
   subst hjd
   rw [List.take_length] at hks
   first|apply Wk.olFreezer (v:=vk)|apply Wk.olFreeze (v:=vk)
   case p=>repeat (first|exact Rem.head|apply Rem.tail)
   intro Z1 e1 hP
   obtain ⟨aP,cP,rfl⟩:=hP.form
   refine Ev.gT ?_
   refine Wk.ret ⟨_,Rs.cell rfl rfl Ev.hM rfl rfl Rs.nil,_,Sub.none _,_,rfl,ShR.of hP (hks.mono e1),rfl⟩
end Go.Proofs.J
namespace Go.Proofs.J
open Go.Ev Go
theorem Rows.of {Z:Zone} {v:Value} {xss:List (List Int)} {us:List Value} (h:Sl Z 1 v xss.length us) (k:All2 (fun u (xs:List Int)=>Sl Z 1 u xs.length (xs.map (Value.int .i64))) us xss):Rows Z v xss:=⟨us,h,fun i hi=>k.getElem hi⟩
theorem copyTable {Z:Zone} {nm:ByteArray} {a1 a2 a3:Option Addr} {m1 c1 m2 c2 m3 c3:Nat} {t:Tbl} (h:TbR Z nm (.slice a1 m1 c1) (.slice a2 m2 c2) (.slice a3 m3 c3) t) (ht:t.Th) :
  Cz M (.func (.func 57) #[] #[]) [.agg ⟨[.string nm,.slice a1 m1 c1,.slice a2 m2 c2,.slice a3 m3 c3]⟩] Z [] (fun v' Z' A'=>∃ a1 m1 c1 a2 m2 c2 a3 m3 c3,v'=.agg ⟨[.string t.name,.slice a1 m1 c1,.slice a2 m2 c2,.slice a3 m3 c3]⟩∧TbR Z' t.name (.slice a1 m1 c1) (.slice a2 m2 c2) (.slice a3 m3 c3) t∧A'=[]):=by
 obtain rfl:=h.name
 have se:=h.elems
 have sw:=h.wrong
 obtain ⟨us,sa,ra⟩:=h.above
 obtain ⟨ae,ce,ee⟩:=se.form
 obtain ⟨aw,cw,ew⟩:=sw.form
 obtain ⟨ab,cb,eb⟩:=sa.form
 cases ee;cases ew;cases eb
 have l1:=ht.elems
 have l2:=ht.above
 have l3:=ht.wrong
 refine Cz.fn (f:=Tryz.f57) Ev.cM rfl rfl rfl _ rfl ?_
 repeat first|refine go ?_|with_reducible intro _
 rename_i b1 b2
 refine Wk.drawr (ms:=[0,1,0,0,8,28,0,0,128,508,1023,0,4095]) (l:=[0,1,2,3,4,6,7,8,11,5,9,10,12]) Ev.cM Ev.cM Ev.cM rfl ?_
 refine Ev.gT ?_
 refine Wk.bs rfl rfl rfl rfl rfl rfl rfl fun b7=>?_
 refine Ev.gT ?_
 refine Wk.bs rfl rfl rfl rfl rfl rfl rfl fun b11=>?_
 repeat first|refine go ?_|with_reducible intro _
 rename_i b3
 refine Wk.alterr (x:=pt b7 _) (C:=[ol 1 (.slice (some ⟨b7,0,none⟩) 0 0) 0 []]) Ev.rM (fun s h=>ol_of_pt (m:=0) (vs:=[]) (g:=0) rfl (.inl rfl) rfl h) ?_
 refine Wk.appendD rfl rfl rfl rfl rfl rfl rfl rfl Rem.head (Src.sl se) rfl (okCells_str _) (by simp) Ev.wM Ev.wM rfl rfl fun v10=>⟨?_,?_⟩
 ·exact Ev.pM3
 first|apply Wk.olFreezer (v:=v10)|apply Wk.olFreeze (v:=v10)
 case p=>repeat (first|exact Rem.head|apply Rem.tail)
 intro Z1 e1 h10
 obtain ⟨a10,c10,rfl⟩:=h10.form
 refine Ev.gT ?_
 refine Wk.alterr (x:=pt b11 _) (C:=[ol 1 (.slice (some ⟨b11,0,none⟩) 0 0) 0 []]) Ev.rM (fun s h=>ol_of_pt (m:=0) (vs:=[]) (g:=0) rfl (.inl rfl) rfl h) ?_
 refine Wk.appendD rfl rfl rfl rfl rfl rfl rfl rfl Rem.head (Src.sl (sw.mono e1)) rfl (okCells_bool _) (by simp) Ev.wM Ev.wM rfl rfl fun v14=>⟨?_,?_⟩
 ·exact Ev.pM3
 first|apply Wk.olFreezer (v:=v14)|apply Wk.olFreeze (v:=v14)
 case p=>repeat (first|exact Rem.head|apply Rem.tail)
 intro Z2 e2 h14
 obtain ⟨a14,c14,rfl⟩:=h14.form
 simp only [List.nil_append,Nat.zero_add] at h10 h14
 have e:=e1.trans e2
 refine Ev.gT ?_
 refine Wk.store rfl rfl rfl rfl rfl Ev.uM rfl Ev.cM rfl ?_
 refine Ev.gT ?_
 refine Wk.olNil 1 ?_
 refine Wk.loop (fun mm L Z' A'=>∃ (j:Nat) (vk:Value) (ks:List Value),j≤t.above.length∧mm=t.above.length - j∧Ext Z2 Z'∧A'=[ol 1 vk j ks,pt b3 (.cells [.string t.name,.slice a10 (0+t.elems.length) c10,vk,.slice a14 (0+t.wrong.length) c14] true 0),pt b2 _,pt b1 (.cells [.string t.name,.slice a1 t.elems.length c1,.slice a2 t.above.length c2,.slice a3 t.wrong.length c3] true 0)] ∧
  All2 (fun u (xs:List Int)=>Sl Z' 1 u xs.length (xs.map (Value.int .i64))) ks (t.above.take j)∧Kp L [(1,.pointer (some ⟨b1,0,none⟩)),(2,.pointer (some ⟨b2,0,none⟩)),(3,.pointer (some ⟨b3,0,none⟩)),(4,.int .i64 j)]) t.above.length ⟨0,_,[],Nat.zero_le _,rfl,Ext.refl _,rfl,.nil,Ev.kM⟩ ?_
 rintro mm L Z' A' - ⟨j,vk,ks,hj,rfl,hz,rfl,hks,hk⟩
 refine Wk.kp hk ?_
 clear hk
 have sa':=sa.mono (e.trans hz)
 refine Ev.gT ?_
 refine Wk.cond rfl (fun hc=>?_) (fun hc=>?_)
 ·have hlt:j < t.above.length:=by simp at hc;omega
  clear hc
  obtain ⟨u,ua,su⟩:=ra j hlt
  have hg:getCells us (j*1) 1=some [u]:=getCells_one (by rw [Nat.mul_one];exact ua)
  replace su:=su.mono (e.trans hz)
  have h20:=ht.rows j hlt
  obtain ⟨au,cu,rfl⟩:=su.form
  refine Ev.gT ?_
  refine Wk.drawr (ms:=[0,1,0,0,8,0,56,120,252,508,1023,2047,4095]) (l:=[0,1,2,3,4,5,6,7,8,9,10,11,12]) Ev.cM Ev.cM Ev.cM rfl ?_
  first|refine Wk.knowr Ev.rM (fun s h=>ol.form (v:=vk) h) ?_|refine Wk.know Ev.rM (fun s h=>ol.form (v:=vk) h) ?_
  rintro ⟨aB,cB,rfl⟩
  refine Ev.gT ?_
  refine Wk.bs rfl rfl rfl rfl rfl rfl rfl fun b16=>?_
  repeat first|refine go ?_|with_reducible intro _
  refine Wk.alterr (C:=[ol 1 (.slice (some ⟨b16,0,none⟩) 0 0) 0 []]) Ev.rM (fun s h=>ol_of_pt (m:=0) (vs:=[]) (g:=0) rfl (.inl rfl) rfl h) ?_
  refine Wk.appendD rfl rfl rfl rfl rfl rfl rfl rfl Rem.head (Src.sl su) rfl (okCells_int _) (by simp) Ev.wM Ev.wM rfl rfl fun v22=>⟨?_,?_⟩
  ·exact Ev.pM0
  first|apply Wk.olFreezer (v:=v22)|apply Wk.olFreeze (v:=v22)
  case p=>repeat (first|exact Rem.head|apply Rem.tail)
  intro Z3 e3 h22
  simp only [List.nil_append,Nat.zero_add] at h22
  obtain ⟨a22,c22,rfl⟩:=h22.form
  refine Ev.gT ?_
  refine Wk.bs (cs:=[.slice a22 t.above[j].length c22]) rfl rfl rfl rfl rfl rfl (by simp [fillL,putAt,repCells,h22.cellsL]) fun b23=>?_
  refine Wk.append (kk:=1) (new:=[.slice a22 t.above[j].length c22]) rfl rfl rfl rfl rfl rfl rfl rfl Ev.rM (Src.lit Ev.hM rfl) rfl rfl rfl Ev.wM Ev.wM Ev.cM rfl rfl fun v24=>?_
  refine Wk.dropr (.keep (.drop (Sub.refl _))) ?_
  first|refine Wk.knowr Ev.rM (fun s h=>ol.form (v:=v24) h) ?_|refine Wk.know Ev.rM (fun s h=>ol.form (v:=v24) h) ?_
  rintro ⟨a24,c24,rfl⟩
  refine Ev.gT ?_
  refine Wk.inv ⟨_,by omega,j+1,_,_,hlt,rfl,hz.trans e3,rfl,?_,Ev.kM⟩
  rw [List.take_succ_eq_append_getElem hlt]
  exact (hks.mono fun _ _ q=>q.mono e3).snoc h22
 ·have hjd:j=t.above.length:=by simp at hc;omega
  subst hjd
  rw [List.take_length] at hks
  first|apply Wk.olFreezer (v:=vk)|apply Wk.olFreeze (v:=vk)
  case p=>repeat (first|exact Rem.head|apply Rem.tail)
  intro Z3 e3 hP
  obtain ⟨aP,cP,rfl⟩:=hP.form
  have ez:=hz.trans e3
  refine Ev.gT ?_
  refine Wk.ret ⟨_,Rs.cell rfl rfl Ev.hM rfl rfl Rs.nil,_,Sub.none _,_,_,_,_,_,_,_,_,_,rfl,⟨rfl,by simpa using h10.mono (e2.trans ez),Rows.of hP (hks.mono fun _ _ q=>q.mono e3),by simpa using h14.mono ez⟩,rfl⟩
end Go.Proofs.J
namespace Go.Proofs.J
open Go.Ev Go
def RowsL {α:Type} (sz:Nat) (R:List Value→α→Prop) (us:List Value) (xs:List α):Prop:=us.length=xs.length*sz∧∀ i (h:i < xs.length),∃ cs,getCells us (i*sz) sz=some cs∧R cs xs[i]
theorem RowsL.nil {α:Type} {sz:Nat} {R:List Value→α→Prop}:RowsL sz R [] []:=⟨by simp,fun i h=>by simp at h⟩
theorem RowsL.mono {α:Type} {sz:Nat} {R S:List Value→α→Prop} {us:List Value} {xs:List α} (h:RowsL sz R us xs) (k:∀ c x,R c x→S c x):RowsL sz S us xs :=
 ⟨h.1,fun i hi=>let ⟨cs,g1,g2⟩:=h.2 i hi;⟨cs,g1,k _ _ g2⟩⟩
theorem RowsL.snoc {α:Type} {sz:Nat} {R:List Value→α→Prop} {us c:List Value} {xs:List α} {x:α} (h:RowsL sz R us xs) (hc:c.length=sz) (r:R c x):RowsL sz R (us++c) (xs++[x]):=by
 obtain ⟨h1,h2⟩:=h
 refine ⟨by simp [h1,hc,Nat.add_mul],fun i hi=>?_⟩
 by_cases e:i < xs.length
 ·obtain ⟨cs,g1,g2⟩:=h2 i e
  refine ⟨cs,?_,by rw [List.getElem_append_left e];exact g2⟩
  unfold getCells at g1 ⊢
  have hle:(i+1)*sz≤xs.length*sz:=Nat.mul_le_mul_right _ e
  rw [Nat.add_mul,Nat.one_mul] at hle
  rw [if_pos Ev.wM] at g1
  rw [if_pos (by rw [List.length_append];omega),List.drop_append_of_le_length Ev.wM,List.take_append_of_le_length (by rw [List.length_drop];omega)]
  exact g1
 ·have e2:i=xs.length:=by simp at hi;omega
  subst e2
  refine ⟨c,?_,by simpa using r⟩
  unfold getCells
  rw [←h1,if_pos (by simp [hc]),List.drop_left,←hc,List.take_length]
def TbC (Z:Zone) (cs:List Value) (t:Tbl):Prop:=∃ nm a1 m1 c1 a2 m2 c2 a3 m3 c3,cs=[.string nm,.slice a1 m1 c1,.slice a2 m2 c2,.slice a3 m3 c3]∧TbR Z nm (.slice a1 m1 c1) (.slice a2 m2 c2) (.slice a3 m3 c3) t
theorem TbC.mono {Z Z':Zone} {cs:List Value} {t:Tbl} (e:Ext Z Z') (h:TbC Z cs t):TbC Z' cs t:=let ⟨nm,a1,m1,c1,a2,m2,c2,a3,m3,c3,h1,h2⟩:=h;⟨nm,a1,m1,c1,a2,m2,c2,a3,m3,c3,h1,h2.mono e⟩
theorem TbsR.of {Z:Zone} {v:Value} {ts:List Tbl} {us:List Value} (h:Sl Z 4 v ts.length us) (k:RowsL 4 (TbC Z) us ts):TbsR Z v ts :=
 ⟨us,h,fun i hi=>let ⟨cs,g1,nm,a1,m1,c1,a2,m2,c2,a3,m3,c3,e,g2⟩:=k.2 i hi;⟨nm,a1,m1,c1,a2,m2,c2,a3,m3,c3,by rw [g1,e],g2⟩⟩
theorem copyLattice {Z:Zone} {cs:List Value} {l:Lat} (h:LatR Z cs l) (ht:l.Th) :
  Cz M (.func (.func 17) #[] #[]) [.agg ⟨cs⟩] Z [] (fun v' Z' A'=>∃ cs',v'=.agg ⟨cs'⟩∧LatR Z' cs' l∧A'=[]):=by
 obtain ⟨a1,c1,a2,c2,rfl,hT,hS⟩:=h.form
 obtain ⟨us,hs,hrow⟩:=hT
 have hfew:=ht.few.2
 refine Cz.fn (f:=Tryz.f17) Ev.cM rfl rfl rfl _ rfl ?_
 repeat first|refine go ?_|with_reducible intro _
 rename_i b1 b2
 refine Wk.call rfl rfl (Spl.none _) (copyShape 6 ht.shape hS) rfl rfl rfl ?_
 rintro v' Z0 A' hz0 ⟨cs',rfl,hR,rfl⟩
 obtain ⟨ak,ck,usk,rfl,_,_⟩:=hR.form
 repeat first|refine go ?_|with_reducible intro _
 rename_i b3
 refine Wk.olNil 4 ?_
 refine Wk.loop (fun mm L Z' A'=>∃ (j:Nat) (vk:Value) (ks:List Value),j≤l.1.length∧mm=l.1.length - j∧Ext Z0 Z'∧A'=[ol 4 vk j ks,pt b3 (.cells [vk,.int .u8 l.2.kind,.string l.2.name,.slice ak l.2.kids.length ck] true 0),pt b2 _,pt b1 (.cells [.slice a1 l.1.length c1,.int .u8 l.2.kind,.string l.2.name,.slice a2 l.2.kids.length c2] true 0)] ∧
  RowsL 4 (TbC Z') ks (l.1.take j)∧Kp L [(1,.pointer (some ⟨b1,0,none⟩)),(2,.pointer (some ⟨b2,0,none⟩)),(3,.pointer (some ⟨b3,0,none⟩)),(4,.int .i64 j)]) l.1.length ⟨0,_,[],Nat.zero_le _,rfl,Ext.refl _,rfl,RowsL.nil,Ev.kM⟩ ?_
 rintro mm L Z' A' - ⟨j,vk,ks,hj,rfl,hz,rfl,hks,hk⟩
 refine Wk.kp hk ?_
 clear hk
 have hs':=hs.mono (hz0.trans hz)
 refine Ev.gT ?_
 refine Wk.cond rfl (fun hc=>?_) (fun hc=>?_)
 ·have hlt:j < l.1.length:=by simp at hc;omega
  clear hc
  obtain ⟨nm,x1,m1,d1,x2,m2,d2,x3,m3,d3,g1,r1⟩:=hrow j hlt
  refine Ev.gT ?_
  refine Wk.drawr (ms:=[0,1,0,4,0,28,60,124,252,511,1023,2047]) (l:=[0,1,2,3,4,5,6,7,8,9,10,11]) Ev.cM Ev.cM Ev.cM rfl ?_
  first|refine Wk.knowr Ev.rM (fun s h=>ol.form (v:=vk) h) ?_|refine Wk.know Ev.rM (fun s h=>ol.form (v:=vk) h) ?_
  rintro ⟨aB,cB,rfl⟩
  repeat first|refine go ?_|with_reducible intro _
  refine Wk.callD rfl rfl (Spl.none _) (copyTable (r1.mono (hz0.trans hz)) (ht.tables j hlt)) rfl rfl fun v24 Z2 A' hz2 hq=>?_
  obtain ⟨y1,n1,e1,y2,n2,e2,y3,n3,e3,rfl,hR2,rfl⟩:=hq
  refine ⟨?_,?_⟩
  ·exact Ev.pM0
  refine Ev.gT ?_
  refine Wk.bs (cs:=[.string l.1[j].name,.slice y1 n1 e1,.slice y2 n2 e2,.slice y3 n3 e3]) rfl rfl rfl rfl rfl rfl rfl fun b50=>?_
  refine Wk.append (kk:=1) (new:=[.string l.1[j].name,.slice y1 n1 e1,.slice y2 n2 e2,.slice y3 n3 e3]) rfl rfl rfl rfl rfl rfl rfl rfl Ev.rM (Src.lit Ev.hM rfl) rfl rfl rfl Ev.wM Ev.wM Ev.cM rfl rfl fun v51=>?_
  refine Wk.dropr (.keep (.drop (Sub.refl _))) ?_
  first|refine Wk.knowr Ev.rM (fun s h=>ol.form (v:=v51) h) ?_|refine Wk.know Ev.rM (fun s h=>ol.form (v:=v51) h) ?_
  rintro ⟨a51,c51,rfl⟩
  refine Ev.gT ?_
  refine Wk.inv ⟨_,by omega,j+1,_,_,hlt,rfl,hz.trans hz2,rfl,?_,Ev.kM⟩
  rw [List.take_succ_eq_append_getElem hlt]
  exact (hks.mono fun _ _ q=>q.mono hz2).snoc rfl ⟨_,_,_,_,_,_,_,_,_,_,rfl,hR2⟩
 ·have hjd:j=l.1.length:=by simp at hc;omega
  subst hjd
  rw [List.take_length] at hks
  first|apply Wk.olFreezer (v:=vk)|apply Wk.olFreeze (v:=vk)
  case p=>repeat (first|exact Rem.head|apply Rem.tail)
  intro Z1 e1 hP
  obtain ⟨aP,cP,rfl⟩:=hP.form
  refine Ev.gT ?_
  refine Wk.ret ⟨_,Rs.cell rfl rfl Ev.hM rfl rfl Rs.nil,_,Sub.none _,_,rfl,⟨_,_,rfl,TbsR.of hP (hks.mono fun _ _ q=>q.mono e1),hR.mono (hz.trans e1)⟩,rfl⟩
end Go.Proofs.J
