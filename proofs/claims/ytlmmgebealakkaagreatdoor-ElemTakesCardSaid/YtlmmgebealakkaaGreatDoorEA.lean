/- EA -/
import Derived.Test.YtlmmgebealakkaaGreatDoorOK
import Derived.Test.YtlmmgebealakkaaGreatDoorPL
import Derived.Test.YtlmmgebealakkaaGreatDoorEvF
import Derived.Test.YtlmmgebealakkaaGreatDoorOA
set_option linter.unusedVariables false
set_option maxHeartbeats 4000000
set_option maxRecDepth 100000
set_option linter.unusedSimpArgs false
namespace Go.Proofs.J
open Go.Ev Go
theorem copyEl:∀ (d:Nat) {s:El} {Z:Zone} {cs:List Value},s.Fit d→ElR Z s cs →
  Cz M (.func (.func 18) #[] #[]) [.agg ⟨cs⟩] Z [] (fun v' Z' A'=>∃ cs',v'=.agg ⟨cs'⟩∧ElR Z' s cs'∧A'=[])
 | 0,s,Z,cs,ht,h=>ht.pos.elim
 | d+1,s,Z,cs,ht,h=>by
  obtain ⟨a0,c0,a,c,us,rfl,hk0,hs,hL⟩:=h.form
  have t1:=ht.sm.1
  have t2:=ht.sm.2.1
  refine Cz.fn (f:=Tryz.f18) Ev.cM rfl rfl rfl _ rfl ?_
  repeat first|refine go ?_|with_reducible intro _
  rename_i b1 b2
  refine Wk.drawr (ms:=[0,1,0,4,0,0,32,112,255,0,1023]) (l:=[0,1,2,3,4,5,6,9,7,8,10]) Ev.cM Ev.cM Ev.cM rfl ?_
  refine Ev.gT ?_
  refine Wk.bs rfl rfl rfl rfl rfl rfl rfl fun b9=>?_
  repeat first|refine go ?_|with_reducible intro _
  rename_i b3
  refine Wk.alterr (x:=pt b9 _) (C:=[ol 1 (.slice (some ⟨b9,0,none⟩) 0 0) 0 []]) Ev.rM (fun s h=>ol_of_pt (m:=0) (vs:=[]) (g:=0) rfl (.inl rfl) rfl h) ?_
  refine Wk.appendD rfl rfl rfl rfl rfl rfl rfl rfl Rem.head (Src.sl hk0) rfl (okCells_int _) (by simp) Ev.wM Ev.wM rfl rfl fun v12=>⟨?_,?_⟩
  ·exact Ev.pM0
  first|apply Wk.olFreezer (v:=v12)|apply Wk.olFreeze (v:=v12)
  case p=>repeat (first|exact Rem.head|apply Rem.tail)
  intro Z1 e1 h12
  obtain ⟨a12,c12,rfl⟩:=h12.form
  simp only [List.nil_append,Nat.zero_add] at h12
  refine Ev.gT ?_
  refine Wk.store rfl rfl rfl rfl rfl Ev.uM rfl Ev.cM rfl ?_
  refine Ev.gT ?_
  refine Wk.olNil 4 ?_
  refine Wk.loop (fun mm L Z' A'=>∃ (j:Nat) (vk:Value) (ks:List Value),j≤s.kids.length∧mm=s.kids.length - j∧Ext Z1 Z'∧A'=[ol 4 vk j ks,pt b3 (.cells [.int .u8 s.kind,.int .i64 s.n,.slice a12 (0+s.keys.length) c12,vk] true 0),pt b2 _,pt b1 (.cells [.int .u8 s.kind,.int .i64 s.n,.slice a0 s.keys.length c0,.slice a s.kids.length c] true 0)] ∧
   ElRL Z' (s.kids.take j) ks∧Kp L [(1,.pointer (some ⟨b1,0,none⟩)),(2,.pointer (some ⟨b2,0,none⟩)),(3,.pointer (some ⟨b3,0,none⟩)),(4,.int .i64 j)]) s.kids.length ⟨0,_,[],Nat.zero_le _,rfl,Ext.refl _,rfl,by simp [ElRL],Ev.kM⟩ ?_
  rintro mm L Z' A' - ⟨j,vk,ks,hj,rfl,hz,rfl,hks,hk⟩
  refine Wk.kp hk ?_
  clear hk
  have hs':=hs.mono (e1.trans hz)
  refine Ev.gT ?_
  refine Wk.cond rfl (fun hc=>?_) (fun hc=>?_)
  ·have hlt:j < s.kids.length:=by simp at hc;omega
   clear hc
   obtain ⟨k,n,x1,m1,y1,x2,m2,y2,g1,r1⟩:=hL.get j hlt
   refine Ev.gT ?_
   refine Wk.drawr (ms:=[0,1,0,4,0,28,60,124,252,511,1023,2047]) (l:=[0,1,2,3,4,5,6,7,8,9,10,11]) Ev.cM Ev.cM Ev.cM rfl ?_
   first|refine Wk.knowr Ev.rM (fun s h=>ol.form (v:=vk) h) ?_|refine Wk.know Ev.rM (fun s h=>ol.form (v:=vk) h) ?_
   rintro ⟨aB,cB,rfl⟩
   repeat first|refine go ?_|with_reducible intro _
   refine Wk.callD rfl rfl (Spl.none _) (copyEl d (ht.kid hlt) (r1.mono (e1.trans hz))) rfl rfl fun v24 Z2 A' hz2 hq=>?_
   obtain ⟨cs',rfl,hR,rfl⟩:=hq
   refine ⟨?_,?_⟩
   ·exact Ev.pM0
   obtain ⟨p1,q1,p2,q2,us2,rfl,_,_,_⟩:=hR.form
   refine Ev.gT ?_
   refine Wk.bs (cs:=[.int .u8 s.kids[j].kind,.int .i64 s.kids[j].n,.slice p1 s.kids[j].keys.length q1,.slice p2 s.kids[j].kids.length q2]) rfl rfl rfl rfl rfl rfl rfl fun b50=>?_
   refine Wk.append (kk:=1) (new:=[.int .u8 s.kids[j].kind,.int .i64 s.kids[j].n,.slice p1 s.kids[j].keys.length q1,.slice p2 s.kids[j].kids.length q2]) rfl rfl rfl rfl rfl rfl rfl rfl Ev.rM (Src.lit Ev.hM rfl) rfl rfl rfl Ev.wM Ev.wM Ev.cM rfl rfl fun v51=>?_
   refine Wk.dropr (.keep (.drop (Sub.refl _))) ?_
   first|refine Wk.knowr Ev.rM (fun s h=>ol.form (v:=v51) h) ?_|refine Wk.know Ev.rM (fun s h=>ol.form (v:=v51) h) ?_
   rintro ⟨a51,c51,rfl⟩
   refine Ev.gT ?_
   refine Wk.inv ⟨_,by omega,j+1,_,_,hlt,rfl,hz.trans hz2,rfl,?_,Ev.kM⟩
   rw [List.take_succ_eq_append_getElem hlt]
   exact ElRL.snoc hR (hks.mono hz2)
  ·have hjd:j=s.kids.length:=by simp at hc;omega
   subst hjd
   rw [List.take_length] at hks
   first|apply Wk.olFreezer (v:=vk)|apply Wk.olFreeze (v:=vk)
   case p=>repeat (first|exact Rem.head|apply Rem.tail)
   intro Z2 e2 hP
   obtain ⟨aP,cP,rfl⟩:=hP.form
   refine Ev.gT ?_
   refine Wk.ret ⟨_,Rs.cell rfl rfl Ev.hM rfl rfl Rs.nil,_,Sub.none _,_,rfl,ElR.of (by simpa using h12.mono (hz.trans e2)) hP (hks.mono e2),rfl⟩
end Go.Proofs.J
namespace Go.Proofs.J
open Go.Ev Go
theorem sameInts {Z:Zone} {v w:Value} {xs ys:List Int} (h1:Sl Z 1 v xs.length (xs.map (Value.int .i64))) (h2:Sl Z 1 w ys.length (ys.map (Value.int .i64))) (hn:xs.length≤17592186044416) :
  Cz M (.func (.func 67) #[] #[]) [v,w] Z [] (fun v' Z' A'=>Bis v' (xs=ys)∧Z=Z'∧A'=[]):=by
 obtain ⟨a1,c1,rfl⟩:=h1.form
 obtain ⟨a2,c2,rfl⟩:=h2.form
 refine Cz.fn (f:=Tryz.f67) Ev.cM rfl rfl rfl _ rfl ?_
 refine Ev.gT ?_
 refine Wk.cond rfl (fun hc=>?_) (fun hc=>?_)
 ·refine Ev.gT ?_
  refine Wk.ret ⟨_,Rs.tmp rfl Rs.nil,_,Sub.none _,Bis.of (by simp only [Bool.false_eq_true,false_iff];rintro rfl;simp at hc),rfl,rfl⟩
 have o1:xs.length=ys.length:=by simp at hc;omega
 clear hc
 refine Ev.gT ?_
 refine Wk.loop (fun mm L Z' A'=>∃ j:Nat,j≤xs.length∧mm=xs.length - j∧Z=Z'∧Sub A' []∧(∀ x,x < j→xs[x]?=ys[x]?)∧Kp L [(0,.slice a1 xs.length c1),(1,.slice a2 ys.length c2),(5,.int .i64 j)]) (xs.length) ⟨0,Nat.zero_le _,rfl,rfl,Ev.sM,fun x hx=>by omega,Ev.kM⟩ ?_
 rintro mm L Z' A' - ⟨j,hjj,rfl,rfl,hsub,invj,hk⟩
 refine Wk.drop hsub ?_
 refine Wk.kp hk ?_
 clear hk hsub
 refine Ev.gT ?_
 refine Wk.cond rfl (fun hc=>?_) (fun hc=>?_)
 ·have hlt:j < xs.length:=by simp at hc;omega
  clear hc
  have hlt2:j < ys.length:=by omega
  have g1:getCells (xs.map (Value.int .i64)) (j*1) 1=some [.int .i64 xs[j]]:=getCells_map hlt
  have g2:getCells (ys.map (Value.int .i64)) (j*1) 1=some [.int .i64 ys[j]]:=getCells_map hlt2
  refine Ev.gT ?_
  refine Wk.drawr (ms:=[0,0,3,7,0,0,48,112,255]) (l:=[0,1,2,3,4,5,6,7,8]) Ev.cM Ev.cM Ev.cM rfl ?_
  repeat first|refine go ?_|with_reducible intro _
  refine Wk.cond rfl (fun hc=>?_) (fun hc=>?_)
  ·refine Ev.gT ?_
   refine Wk.ret ⟨_,Rs.tmp rfl Rs.nil,_,Sub.none _,Bis.of (by simp only [Bool.false_eq_true,false_iff];rintro rfl;simp at hc),rfl,rfl⟩
  ·have e:xs[j]=ys[j]:=by simpa using hc
   refine Ev.gT ?_
   refine Wk.inv ⟨_,by omega,j+1,by omega,rfl,rfl,Ev.sM,(nextQ invj (by rw [List.getElem?_eq_getElem hlt,List.getElem?_eq_getElem hlt2,e])),Ev.kM⟩
 ·have e:xs=ys:=List.ext_getElem? fun x=>by
   by_cases hx:x < xs.length
   ·exact invj x (by simp at hc;omega)
   ·rw [List.getElem?_eq_none Ev.wM,List.getElem?_eq_none Ev.wM]
  refine Ev.gT ?_
  refine Wk.ret ⟨_,Rs.tmp rfl Rs.nil,_,Sub.none _,Bis.of (by simp only [true_iff];exact e),rfl,rfl⟩
def SameEl (d:Nat):Prop:=∀ {s t:El} {Z:Zone} {cs ct:List Value},s.Fit d→ElR Z s cs→ElR Z t ct →
  Cz M (.func (.func 24) #[] #[]) [.agg ⟨cs⟩,.agg ⟨ct⟩] Z [] (fun v' Z' A'=>Bis v' (s=t)∧Z=Z'∧A'=[])
theorem sameEls_of {d:Nat} (ih:SameEl d) {Z:Zone} {v w:Value} {xs ys:List El} (h1:ElsR Z v xs) (h2:ElsR Z w ys) (hn:xs.length≤2199023255552) (hf:∀ i (h:i < xs.length),(xs[i]).Fit d) :
  Cz M (.func (.func 40) #[] #[]) [v,w] Z [] (fun v' Z' A'=>Bis v' (xs=ys)∧Z=Z'∧A'=[]):=by
 obtain ⟨a1,c1,rfl⟩:=h1.form
 obtain ⟨a2,c2,rfl⟩:=h2.form
 obtain ⟨us1,s1,r1⟩:=h1
 obtain ⟨us2,s2,r2⟩:=h2
 refine Cz.fn (f:=Tryz.f40) Ev.cM rfl rfl rfl _ rfl ?_
 refine Ev.gT ?_
 refine Wk.cond rfl (fun hc=>?_) (fun hc=>?_)
 ·refine Ev.gT ?_
  refine Wk.ret ⟨_,Rs.tmp rfl Rs.nil,_,Sub.none _,Bis.of (by simp only [Bool.false_eq_true,false_iff];rintro rfl;simp at hc),rfl,rfl⟩
 have o1:xs.length=ys.length:=by simp at hc;omega
 clear hc
 refine Ev.gT ?_
 refine Wk.loop (fun mm L Z' A'=>∃ j:Nat,j≤xs.length∧mm=xs.length - j∧Z=Z'∧Sub A' []∧(∀ x,x < j→xs[x]?=ys[x]?)∧Kp L [(0,.slice a1 xs.length c1),(1,.slice a2 ys.length c2),(5,.int .i64 j)]) (xs.length) ⟨0,Nat.zero_le _,rfl,rfl,Ev.sM,fun x hx=>by omega,Ev.kM⟩ ?_
 rintro mm L Z' A' - ⟨j,hjj,rfl,rfl,hsub,invj,hk⟩
 refine Wk.drop hsub ?_
 refine Wk.kp hk ?_
 clear hk hsub
 refine Ev.gT ?_
 refine Wk.cond rfl (fun hc=>?_) (fun hc=>?_)
 ·have hlt:j < xs.length:=by simp at hc;omega
  clear hc
  have hlt2:j < ys.length:=by omega
  obtain ⟨k,n,x1,m1,y1,x2,m2,y2,g1,q1⟩:=r1.get j hlt
  obtain ⟨k',n',x1',m1',y1',x2',m2',y2',g2,q2⟩:=r2.get j hlt2
  refine Ev.gT ?_
  refine Wk.drawr (ms:=[0,0,3,7,0,0,48,112,255,511]) (l:=[0,1,2,3,4,5,6,7,8,9]) Ev.cM Ev.cM Ev.cM rfl ?_
  repeat first|refine go ?_|with_reducible intro _
  refine Wk.call rfl rfl (Spl.none _) ((ih (hf j hlt) q1 q2)) Ev.cM rfl rfl ?_
  rintro v' Z' A' hz ⟨⟨b,rfl,hb⟩,rfl,rfl⟩
  refine Ev.gT ?_
  refine Wk.cond rfl (fun hc=>?_) (fun hc=>?_)
  ·refine Ev.gT ?_
   refine Wk.ret ⟨_,Rs.tmp rfl Rs.nil,_,Sub.none _,Bis.of (by simp only [Bool.false_eq_true,false_iff];rintro rfl;rw [hb.2 rfl] at hc;cases hc),rfl,rfl⟩
  ·have e:xs[j]=ys[j]:=hb.1 (by simpa using hc)
   refine Ev.gT ?_
   refine Wk.inv ⟨_,by omega,j+1,by omega,rfl,rfl,Ev.sM,(nextQ invj (by rw [List.getElem?_eq_getElem hlt,List.getElem?_eq_getElem hlt2,e])),Ev.kM⟩
 ·have e:xs=ys:=List.ext_getElem? fun x=>by
   by_cases hx:x < xs.length
   ·exact invj x (by simp at hc;omega)
   ·rw [List.getElem?_eq_none Ev.wM,List.getElem?_eq_none Ev.wM]
  refine Ev.gT ?_
  refine Wk.ret ⟨_,Rs.tmp rfl Rs.nil,_,Sub.none _,Bis.of (by simp only [true_iff];exact e),rfl,rfl⟩
theorem sameEl:∀ (d:Nat),SameEl d
 | 0=>fun hf _ _=>hf.pos.elim
 | d+1=>by
  intro hf h1 h2
  rename_i s t Z cs ct
  obtain ⟨a0,c0,a,c,us,rfl,k1,s1,r1⟩:=h1.form
  obtain ⟨b0,e0,b,e,vs,rfl,k2,s2,r2⟩:=h2.form
  have t1:=hf.sm.1
  have t2:=hf.sm.2.1
  refine Cz.fn (f:=Tryz.f24) Ev.cM rfl rfl rfl _ rfl ?_
  repeat first|refine go ?_|with_reducible intro _
  refine Wk.caser 10 rfl (fun hc=>?_) (fun hc=>?_)
  ·have e1:s.kind=t.kind:=by simpa using hc
   clear hc
   refine Ev.gT ?_
   refine Wk.caser 17 rfl (fun hc=>?_) (fun hc=>?_)
   ·have e2:s.n=t.n:=by simpa using hc
    clear hc
    refine Ev.gT ?_
    refine Wk.call rfl rfl (Spl.none _) (sameInts k1 k2 t1) rfl rfl rfl ?_
    rintro v' Z' A' hz ⟨⟨f,rfl,hb⟩,rfl,rfl⟩
    refine Ev.gT ?_
    refine Wk.caser 24 rfl (fun hc=>?_) (fun hc=>?_)
    ·have e3:=hb.1 hc
     refine Ev.gT ?_
     refine Wk.call rfl rfl (Spl.none _) (sameEls_of (sameEl d) ⟨_,s1,r1⟩ ⟨_,s2,r2⟩ t2 (fun i hi=>hf.kid hi)) rfl rfl rfl ?_
     rintro v' Z' A' hz ⟨⟨g,rfl,hg⟩,rfl,rfl⟩
     refine Ev.gT ?_
     refine Wk.ret ⟨_,Rs.tmp rfl Rs.nil,_,Sub.none _,Bis.of (by rw [El.eq_iff,hg];exact ⟨fun h=>⟨e1,e2,e3,h⟩,fun h=>h.2.2.2⟩),rfl,rfl⟩
    ·refine Ev.gT ?_
     refine Wk.ret ⟨_,Rs.tmp rfl Rs.nil,_,Sub.none _,Bis.of (by rw [El.eq_iff];simp only [Bool.false_eq_true,false_iff];rintro ⟨_,_,h,_⟩;rw [hb.2 h] at hc;cases hc),rfl,rfl⟩
   ·refine Ev.gT ?_
    refine Wk.ret ⟨_,Rs.tmp rfl Rs.nil,_,Sub.none _,Bis.of (by rw [El.eq_iff];simp only [Bool.false_eq_true,false_iff];rintro ⟨_,h,_⟩;simp [h] at hc),rfl,rfl⟩
  ·refine Ev.gT ?_
   refine Wk.ret ⟨_,Rs.tmp rfl Rs.nil,_,Sub.none _,Bis.of (by rw [El.eq_iff];simp only [Bool.false_eq_true,false_iff];rintro ⟨h,_⟩;simp [h] at hc),rfl,rfl⟩
theorem sameEls {d:Nat} {Z:Zone} {v w:Value} {xs ys:List El} (h1:ElsR Z v xs) (h2:ElsR Z w ys) (hn:xs.length≤2199023255552) (hf:∀ i (h:i < xs.length),(xs[i]).Fit d) :
  Cz M (.func (.func 40) #[] #[]) [v,w] Z [] (fun v' Z' A'=>Bis v' (xs=ys)∧Z=Z'∧A'=[]):=sameEls_of (sameEl d) h1 h2 hn hf
end Go.Proofs.J
namespace Go.Proofs.J
open Go.Ev Go
theorem size_:∀ (d:Nat) {s:El} {Z:Zone} {cs:List Value},s.Fit d→ElR Z s cs →
  Cz M (.func (.func 25) #[] #[]) [.agg ⟨cs⟩] Z [] (fun v' Z' A'=>v'=.int .i64 s.sz∧Z=Z'∧A'=[])
 | 0,s,Z,cs,hf,h=>hf.pos.elim
 | d+1,s,Z,cs,hf,h=>by
  obtain ⟨a0,c0,a,c,us,rfl,k1,s1,r1⟩:=h.form
  have t1:=hf.sm.1
  have t2:=hf.sm.2.1
  refine Cz.fn (f:=Tryz.f25) Ev.cM rfl rfl rfl _ rfl ?_
  repeat first|refine go ?_|with_reducible intro _
  rename_i b1
  rw [El.sz_eq]
  refine Wk.loop (fun mm L Z' A'=>∃ (j:Nat) (r:Int),j≤s.kids.length∧szL (1+(s.keys.length:Int)) s.kids=szL r (s.kids.drop j)∧mm=s.kids.length - j∧Z=Z'∧Sub A' [pt b1 (.cells [.int .u8 s.kind,.int .i64 s.n,.slice a0 s.keys.length c0,.slice a s.kids.length c] true 0)]∧Kp L [(1,.pointer (some ⟨b1,0,none⟩)),(3,.int .i64 r),(4,.int .i64 j)]) s.kids.length ⟨0,_,Nat.zero_le _,rfl,rfl,rfl,Sub.refl _,Ev.kM⟩ ?_
  rintro mm L Z' A' - ⟨j,r,hj,hsz,rfl,rfl,hsub,hk'⟩
  refine Wk.drop hsub ?_
  refine Wk.kp hk' ?_
  clear hk' hsub
  refine Ev.gT ?_
  refine Wk.caser 14 rfl (fun hc=>?_) (fun hc=>?_)
  ·have hlt:j < s.kids.length:=by simp at hc;omega
   clear hc
   refine Ev.gT ?_
   refine Wk.cond rfl (fun hc=>?_) (fun hc=>?_)
   ·obtain ⟨k,n,x1,m1,y1,x2,m2,y2,g1,q1⟩:=r1.get j hlt
    repeat first|refine go ?_|with_reducible intro _
    refine Wk.call rfl rfl (Spl.none _) (size_ d (hf.kid hlt) q1) rfl rfl rfl ?_
    rintro v' Z' A' hz ⟨rfl,rfl,rfl⟩
    refine Wk.bin rfl rfl rfl rfl rfl ?_
    refine Ev.gT ?_
    exact Wk.inv ⟨_,by omega,j+1,_,hlt,by rw [hsz,List.drop_eq_getElem_cons hlt,szL,if_pos (by simpa using hc)],rfl,rfl,Sub.refl _,Ev.kM⟩
   ·rw [hsz,List.drop_eq_getElem_cons hlt,szL,if_neg (by simpa using hc)]
    refine Ev.gT ?_
    refine Wk.ret ⟨_,Rs.tmp rfl Rs.nil,_,Sub.none _,rfl,rfl,rfl⟩
  ·rw [hsz,List.drop_eq_nil_of_le (by simp at hc;omega),szL]
   refine Ev.gT ?_
   refine Wk.ret ⟨_,Rs.tmp rfl Rs.nil,_,Sub.none _,rfl,rfl,rfl⟩
theorem thinLatS {Z:Zone} {cs:List Value} {l:Lat} {ve:Value} {els:List El} {d:Nat} (h:LatR Z cs l) (he:ElsR Z ve els) (hl:els.length≤2199023255552) (hd:∀ i (h:i < els.length),(els[i]).Fit d) :
  Cz M (.func (.func 15) #[] #[]) [.agg ⟨cs⟩,ve] Z [] (fun v' Z' A'=>(∃ b,v'=.bool b∧(b=true→l.Th∧∀ x,x < els.length→∀ hx:x < els.length,els[x].sz≤200))∧Z=Z'∧A'=[]):=by
 classical
 obtain ⟨a1,c1,a2,c2,rfl,ht,hs⟩:=h.form
 obtain ⟨us,hsl,hrow⟩:=ht
 obtain ⟨ae,ce,rfl⟩:=he.form
 obtain ⟨use,hse,hre⟩:=he
 have no:∀ {Z':Zone},(∃ b,outOf [.bool false]=.bool b∧(b=true→l.Th∧∀ x,x < els.length→∀ hx:x < els.length,els[x].sz≤200))∧Z'=Z'∧([]:List SA)=[]:=⟨⟨_,rfl,fun h=>by cases h⟩,rfl,rfl⟩
 refine Cz.fn (f:=Tryz.f15) Ev.cM rfl rfl rfl _ rfl ?_
 repeat first|refine go ?_|with_reducible intro _
 rename_i b2
 first|refine Wk.cut (fun L Z' A'=>Z=Z'∧Sub A' [pt b2 (.cells [.slice a1 l.1.length c1,.int .u8 l.2.kind,.string l.2.name,.slice a2 l.2.kids.length c2] true 0)]∧Kp L [(1,.slice ae els.length ce),(2,.pointer (some ⟨b2,0,none⟩)),(28,.bool (decide (¬ ((¬ (4 < l.1.length∧l.1.length≤8)∧l.1.length≤10)∧Shp.Thin 6 l.2))))]) ?_ ?_|refine Wk.cutr (fun L Z' A'=>Z=Z'∧Sub A' [pt b2 (.cells [.slice a1 l.1.length c1,.int .u8 l.2.kind,.string l.2.name,.slice a2 l.2.kids.length c2] true 0)]∧Kp L [(1,.slice ae els.length ce),(2,.pointer (some ⟨b2,0,none⟩)),(28,.bool (decide (¬ ((¬ (4 < l.1.length∧l.1.length≤8)∧l.1.length≤10)∧Shp.Thin 6 l.2))))]) ?_ ?_
 ·refine Wk.caser 11 rfl (fun hc=>?_) (fun hc=>?_)
  ·refine Ev.gT ?_
   refine Wk.caser 17 rfl (fun he=>?_) (fun he=>?_)
   ·refine Ev.gT ?_
    refine Wk.inv ⟨rfl,Ev.sM,⟨rfl,rfl,eqBp (by simp only [true_iff];rintro ⟨⟨h,_⟩,_⟩;simp at hc he;omega),trivial⟩⟩
   refine Ev.gT ?_
   refine Wk.caser 23 rfl (fun hd=>?_) (fun hd=>?_)
   ·refine Ev.gT ?_
    refine Wk.inv ⟨rfl,Ev.sM,⟨rfl,rfl,eqBp (by simp only [true_iff];rintro ⟨⟨_,h⟩,_⟩;simp at hd;omega),trivial⟩⟩
   ·refine Ev.gT ?_
    refine Wk.call rfl rfl (Spl.none _) (thinShape 6 Ev.wM hs) rfl rfl rfl ?_
    rintro v' Z' A' hz ⟨⟨b,rfl,hb⟩,rfl,rfl⟩
    refine Ev.gT ?_
    refine Wk.inv ⟨rfl,Ev.sM,rfl,rfl,eqBp ?_,trivial⟩
    have hfew:¬ (4 < l.1.length∧l.1.length≤8)∧l.1.length≤10:=by simp at hd hc he;omega
    simp only [hfew,not_false_eq_true,and_self,true_and,←hb];simp
  ·refine Ev.gT ?_
   refine Wk.caser 23 rfl (fun hd=>?_) (fun hd=>?_)
   ·refine Ev.gT ?_
    refine Wk.inv ⟨rfl,Ev.sM,⟨rfl,rfl,eqBp (by simp only [true_iff];rintro ⟨⟨_,h⟩,_⟩;simp at hd;omega),trivial⟩⟩
   ·refine Ev.gT ?_
    refine Wk.call rfl rfl (Spl.none _) (thinShape 6 Ev.wM hs) rfl rfl rfl ?_
    rintro v' Z' A' hz ⟨⟨b,rfl,hb⟩,rfl,rfl⟩
    refine Ev.gT ?_
    refine Wk.inv ⟨rfl,Ev.sM,rfl,rfl,eqBp ?_,trivial⟩
    have hfew:¬ (4 < l.1.length∧l.1.length≤8)∧l.1.length≤10:=by simp at hd hc;omega
    simp only [hfew,not_false_eq_true,and_self,true_and,←hb];simp
 rintro L Z' A' - ⟨rfl,hsub,hk⟩
 refine Wk.drop hsub ?_
 refine Wk.kp hk ?_
 clear hk hsub
 refine Wk.cond rfl (fun hc=>?_) (fun hc=>?_)
 ·refine Ev.gT ?_
  refine Wk.ret ⟨_,Rs.tmp rfl Rs.nil,_,Sub.none _,no⟩
 have o1:=Classical.not_not.1 (of_decide_eq_false hc)
 clear hc
 refine Ev.gT ?_
 refine Wk.loop (fun mm L Z' A'=>∃ j:Nat,j≤l.1.length∧mm=l.1.length - j∧Z=Z'∧Sub A' [pt b2 (.cells [.slice a1 l.1.length c1,.int .u8 l.2.kind,.string l.2.name,.slice a2 l.2.kids.length c2] true 0)]∧(∀ x,x < j→∀ hx:x < l.1.length,(l.1[x]).Th)∧Kp L [(1,.slice ae els.length ce),(2,.pointer (some ⟨b2,0,none⟩)),(5,.int .i64 j)]) l.1.length ⟨0,Nat.zero_le _,rfl,rfl,Sub.refl _,fun x hx=>by omega,Ev.kM⟩ ?_
 rintro mm L Z' A' - ⟨j,hj,rfl,rfl,hsub,inv,hk'⟩
 refine Wk.drop hsub ?_
 refine Wk.kp hk' ?_
 clear hk' hsub
 refine Ev.gT ?_
 refine Wk.cond rfl (fun hc=>?_) (fun hc=>?_)
 ·have hlt:j < l.1.length:=by simp at hc;omega
  clear hc
  obtain ⟨nm,a1,m1,c1,a2,m2,c2,a3,m3,c3,g1,g2⟩:=hrow j hlt
  repeat first|refine go ?_|with_reducible intro _
  refine Wk.call rfl rfl (Spl.none _) (thinTable g2) rfl rfl rfl ?_
  rintro v' Z' A' hz ⟨⟨f,rfl,hf⟩,rfl,rfl⟩
  refine Ev.gT ?_
  refine Wk.cond rfl (fun hc=>?_) (fun hc=>?_)
  ·refine Ev.gT ?_
   refine Wk.ret ⟨_,Rs.tmp rfl Rs.nil,_,Sub.none _,no⟩
  ·refine Ev.gT ?_
   exact Wk.inv ⟨_,by omega,j+1,hlt,rfl,rfl,Sub.refl _,nextP inv (fun _=>hf.1 (by simpa using hc)),Ev.kM⟩
 have o2:∀ x (hx:x < l.1.length),(l.1[x]).Th:=fun x hx=>inv x (by simp at hc;omega) hx
 clear hc inv
 refine Ev.gT ?_
 refine Wk.loop (fun mm L Z' A'=>∃ j:Nat,j≤els.length∧mm=els.length - j∧Z=Z'∧Sub A' []∧(∀ x,x < j→∀ hx:x < els.length,els[x].sz≤200)∧Kp L [(1,.slice ae els.length ce),(6,.int .i64 j)]) els.length ⟨0,Nat.zero_le _,rfl,rfl,Sub.none _,fun x hx=>by omega,Ev.kM⟩ ?_
 rintro mm L Z' A' - ⟨j,hj,rfl,rfl,hsub,inv,hk'⟩
 refine Wk.drop hsub ?_
 refine Wk.kp hk' ?_
 clear hk' hsub
 refine Ev.gT ?_
 refine Wk.cond rfl (fun hc=>?_) (fun hc=>?_)
 ·have hlt:j < els.length:=by simp at hc;omega
  clear hc
  obtain ⟨k,n,x1,m1,y1,x2,m2,y2,g1,q1⟩:=hre.get j hlt
  repeat first|refine go ?_|with_reducible intro _
  refine Wk.call rfl rfl (Spl.none _) (size_ d (hd j hlt) q1) rfl rfl rfl ?_
  rintro v' Z' A' hz ⟨rfl,rfl,rfl⟩
  refine Ev.gT ?_
  refine Wk.cond rfl (fun hc=>?_) (fun hc=>?_)
  ·refine Ev.gT ?_
   refine Wk.ret ⟨_,Rs.tmp rfl Rs.nil,_,Sub.none _,no⟩
  ·refine Ev.gT ?_
   exact Wk.inv ⟨_,by omega,j+1,hlt,rfl,rfl,Sub.refl _,nextP inv (fun _=>by simpa using hc),Ev.kM⟩
 ·have o3:∀ x,x < els.length→∀ hx:x < els.length,els[x].sz≤200:=fun x hx _=>inv x (by simp at hc;omega) hx
  refine Ev.gT ?_
  refine Wk.ret ⟨_,Rs.tmp rfl Rs.nil,_,Sub.none _,⟨_,rfl,fun _=>⟨⟨o1.1,o1.2,o2⟩,o3⟩⟩,rfl,rfl⟩
theorem thinLatE {Z:Zone} {cs:List Value} {l:Lat} {ve:Value} {els:List El} {d:Nat} (h:LatR Z cs l) (he:ElsR Z ve els) (hl:els.length≤2199023255552) (hd:∀ i (h:i < els.length),(els[i]).Fit d) :
  Cz M (.func (.func 15) #[] #[]) [.agg ⟨cs⟩,ve] Z [] (fun v' Z' A'=>(∃ b,v'=.bool b∧(b=true→l.Th))∧Z=Z'∧A'=[]) :=
 (thinLatS h he hl hd).mono fun _ _ _ _ ⟨⟨b,e,k⟩,g⟩=>⟨⟨b,e,fun q=>(k q).1⟩,g⟩
end Go.Proofs.J
namespace Go.Proofs.J
open Go.Ev Go
theorem isBottom {Z:Zone} {cs:List Value} {e:El} (h:ElR Z e cs) :
  Cz M (.func (.func 105) #[] #[]) [.agg ⟨cs⟩] Z [] (fun v' Z' A'=>Bis v' e.Bot∧Z=Z'∧A'=[]):=by
 obtain ⟨a0,c0,a,c,us,rfl,k1,s1,r1⟩:=h.form
 refine Cz.fn (f:=Tryz.f105) Ev.cM rfl rfl rfl _ rfl ?_
 repeat first|refine go ?_|with_reducible intro _
 refine Wk.caser 6 rfl (fun h1=>?_) (fun h1=>?_)
 ·refine Ev.gT ?_
  refine Wk.caser 11 rfl (fun h2=>?_) (fun h2=>?_)
  ·refine Ev.gT ?_
   refine Wk.caser 17 rfl (fun h3=>?_) (fun h3=>?_)
   ·refine Ev.gT ?_
    refine Wk.ret ⟨_,Rs.tmp rfl Rs.nil,_,Sub.none _,Bis.of (by simp at h1 h2 h3;simp [El.Bot,h1,h2,h3]),rfl,rfl⟩
   ·refine Ev.gT ?_
    refine Wk.ret ⟨_,Rs.tmp rfl Rs.nil,_,Sub.none _,Bis.of (by simp at h3;simp [El.Bot,h3]),rfl,rfl⟩
  ·refine Ev.gT ?_
   refine Wk.ret ⟨_,Rs.tmp rfl Rs.nil,_,Sub.none _,Bis.of (by simp at h2;simp [El.Bot,h2]),rfl,rfl⟩
 ·refine Ev.gT ?_
  refine Wk.ret ⟨_,Rs.tmp rfl Rs.nil,_,Sub.none _,Bis.of (by simp at h1;simp [El.Bot,h1]),rfl,rfl⟩
theorem rIsBottom {Z:Zone} {cs:List Value} {e:El} (h:ElR Z e cs) :
  Cz M (.func (.func 42) #[] #[]) [.agg ⟨cs⟩] Z [] (fun v' Z' A'=>Bis v' e.Bot∧Z=Z'∧A'=[]):=by
 obtain ⟨a0,c0,a,c,us,rfl,k1,s1,r1⟩:=h.form
 refine Cz.fn (f:=Tryz.f42) Ev.cM rfl rfl rfl _ rfl ?_
 repeat first|refine go ?_|with_reducible intro _
 refine Wk.caser 6 rfl (fun h1=>?_) (fun h1=>?_)
 ·refine Ev.gT ?_
  refine Wk.caser 11 rfl (fun h2=>?_) (fun h2=>?_)
  ·refine Ev.gT ?_
   refine Wk.caser 17 rfl (fun h3=>?_) (fun h3=>?_)
   ·refine Ev.gT ?_
    refine Wk.ret ⟨_,Rs.tmp rfl Rs.nil,_,Sub.none _,Bis.of (by simp at h1 h2 h3;simp [El.Bot,h1,h2,h3]),rfl,rfl⟩
   ·refine Ev.gT ?_
    refine Wk.ret ⟨_,Rs.tmp rfl Rs.nil,_,Sub.none _,Bis.of (by simp at h3;simp [El.Bot,h3]),rfl,rfl⟩
  ·refine Ev.gT ?_
   refine Wk.ret ⟨_,Rs.tmp rfl Rs.nil,_,Sub.none _,Bis.of (by simp at h2;simp [El.Bot,h2]),rfl,rfl⟩
 ·refine Ev.gT ?_
  refine Wk.ret ⟨_,Rs.tmp rfl Rs.nil,_,Sub.none _,Bis.of (by simp at h1;simp [El.Bot,h1]),rfl,rfl⟩
def El.has (e:El):List Value:=[.bool (decide (e.n≠0)),.bool (decide (0 < e.keys.length)),.bool (decide (0 < e.kids.length))]
theorem has_ {Z:Zone} {cs:List Value} {e:El} (h:ElR Z e cs) :
  Cz M (.func (.func 137) #[] #[]) [.agg ⟨cs⟩] Z [] (fun v' Z' A'=>v'=.agg ⟨e.has⟩∧Z=Z'∧A'=[]):=by
 obtain ⟨a0,c0,a,c,us,rfl,k1,s1,r1⟩:=h.form
 refine Cz.fn (f:=Tryz.f137) Ev.cM rfl rfl rfl _ rfl ?_
 repeat first|refine go ?_|with_reducible intro _
 refine Wk.buildA rfl rfl rfl rfl rfl rfl ?_
 refine Ev.gT ?_
 refine Wk.ret ⟨_,Rs.cell rfl rfl Ev.hM rfl rfl Rs.nil,_,Sub.none _,?_,rfl,rfl⟩
 have e1:(e.n != 0)=decide (e.n≠0):=by by_cases h:e.n=0<;>simp [h]
 have e2:decide ((e.keys.length:Int) > 0)=decide (0 < e.keys.length):=by simp
 have e3:decide ((e.kids.length:Int) > 0)=decide (0 < e.kids.length):=by simp
 show Value.agg ⟨[.bool (e.n != 0),.bool (decide ((e.keys.length:Int) > 0)),.bool (decide ((e.kids.length:Int) > 0))]⟩=_
 rw [e1,e2,e3];rfl
theorem isInt_ {Z:Zone} (a:Int):Cz M (.func (.func 138) #[] #[]) [.int .i64 a] Z [] (fun v' Z' A'=>Bis v' (NumOk a)∧Z=Z'∧A'=[]):=by
 refine Cz.fn (f:=Tryz.f138) Ev.cM rfl rfl rfl _ rfl ?_
 refine Ev.gT ?_
 refine Wk.caser 5 rfl (fun h1=>?_) (fun h1=>?_)
 ·refine Ev.gT ?_
  refine Wk.ret ⟨_,Rs.tmp rfl Rs.nil,_,Sub.none _,Bis.of (by simp at h1;simp [NumOk];omega),rfl,rfl⟩
 ·refine Ev.gT ?_
  refine Wk.ret ⟨_,Rs.tmp rfl Rs.nil,_,Sub.none _,Bis.of (by simp at h1;simp [NumOk];omega),rfl,rfl⟩
theorem rIsNumber {Z:Zone} (a:Int):Cz M (.func (.func 95) #[] #[]) [.int .i64 a] Z [] (fun v' Z' A'=>Bis v' (NumOk a)∧Z=Z'∧A'=[]):=by
 refine Cz.fn (f:=Tryz.f95) Ev.cM rfl rfl rfl _ rfl ?_
 refine Ev.gT ?_
 refine Wk.call rfl rfl (Spl.none _) (In_ a (-1000000000) 1000000000) rfl rfl rfl ?_
 rintro v' Z' A' hz ⟨⟨b,rfl,hb⟩,rfl,rfl⟩
 refine Ev.gT ?_
 refine Wk.ret ⟨_,Rs.tmp rfl Rs.nil,_,Sub.none _,⟨b,rfl,hb⟩,rfl,rfl⟩
end Go.Proofs.J
namespace Go.Proofs.J
open Go.Ev Go
theorem areKeys_ {Z:Zone} {v:Value} {l:List Int} (h:Sl Z 1 v l.length (l.map (Value.int .i64))) (hn:l.length≤17592186044416) :
  Cz M (.func (.func 139) #[] #[]) [v] Z [] (fun v' Z' A'=>Bis v' (KeysOk l)∧Z=Z'∧A'=[]):=by
 obtain ⟨a1,c1,rfl⟩:=h.form
 have no:∀ {Z':Zone} {i:Nat},i < l.length→¬ KeyAt l i→Bis (outOf [.bool false]) (KeysOk l)∧Z'=Z'∧([]:List SA)=[]:=fun hi h=>⟨Bis.of (by simp only [Bool.false_eq_true,false_iff];exact fun k=>h (k.2.2 _ hi)),rfl,rfl⟩
 refine Cz.fn (f:=Tryz.f139) Ev.cM rfl rfl rfl _ rfl ?_
 refine Ev.gT ?_
 refine Wk.loop (fun mm L Z' A'=>∃ j:Nat,j≤l.length∧mm=l.length - j∧Z=Z'∧Sub A' []∧(∀ i,i < j→KeyAt l i)∧Kp L [(0,.slice a1 l.length c1),(5,.slice a1 l.length c1),(6,.int .i64 l.length),(7,.int .i64 j)]) (l.length) ⟨0,Nat.zero_le _,rfl,rfl,Ev.sM,fun i h=>by omega,Ev.kM⟩ ?_
 rintro mm L Z' A' - ⟨j,hjj,rfl,rfl,hsub,invj,hk⟩
 refine Wk.drop hsub ?_
 refine Wk.kp hk ?_
 clear hk hsub
 refine Ev.gT ?_
 refine Wk.cond rfl (fun hc=>?_) (fun hc=>?_)
 ·have hlt:j < l.length:=by simp at hc;omega
  clear hc
  have g1:getCells (l.map (Value.int .i64)) (j*1) 1=some [.int .i64 l[j]]:=getCells_map hlt
  repeat first|refine go ?_|with_reducible intro _
  refine Wk.call rfl rfl (Spl.none _) (isInt_ l[j]) rfl rfl rfl ?_
  rintro v' Z' A' hz ⟨⟨b,rfl,hb⟩,rfl,rfl⟩
  refine Ev.gT ?_
  refine Wk.caser 15 rfl (fun h1=>?_) (fun h1=>?_)
  ·refine Ev.gT ?_
   refine Wk.ret ⟨_,Rs.tmp rfl Rs.nil,_,Sub.none _,no hlt (fun k=>by
    have hN:NumOk l[j]:=by obtain ⟨a,q1,q2,_⟩:=k;rw [List.getElem?_eq_getElem hlt] at q1;cases q1;exact q2
    rw [hb.2 hN] at h1;cases h1)⟩
  have hN:NumOk l[j]:=hb.1 (by simpa using h1)
  refine Ev.gT ?_
  refine Wk.caser 18 rfl (fun h2=>?_) (fun h2=>?_)
  ·cases j with
   | zero=>exfalso;simp at h2
   | succ i =>
   have e:((i+1:Nat):Int) - 1=(i:Int):=by omega
   have hi:i < l.length:=by omega
   have g2:getCells (l.map (Value.int .i64)) (i*1) 1=some [.int .i64 l[i]]:=getCells_map hi
   refine Ev.gT ?_
   refine Wk.tellr 21 (.int .i64 i) rfl (by rw [e]) ?_
   repeat first|refine go ?_|with_reducible intro _
   refine Wk.cond rfl (fun h3=>?_) (fun h3=>?_)
   ·refine Ev.gT ?_
    refine Wk.ret ⟨_,Rs.tmp rfl Rs.nil,_,Sub.none _,no hlt (fun k=>by have:=((KeyAt.succ hlt).1 k).2;simp at h3;omega)⟩
   ·refine Ev.gT ?_
    refine Wk.inv ⟨_,by omega,(i+1)+1,by omega,rfl,rfl,Ev.sM,(nextQ invj ((KeyAt.succ hlt).2 ⟨hN,by simp at h3;omega⟩)),Ev.kM⟩
  ·have hj0:j=0:=by simp at h2;omega
   subst hj0
   refine Ev.gT ?_
   refine Wk.inv ⟨_,by omega,0+1,by omega,rfl,rfl,Ev.sM,(nextQ invj ((KeyAt.zero hlt).2 hN)),Ev.kM⟩
 ·have hall:∀ i,i < l.length→KeyAt l i:=fun i hi=>invj i (by simp at hc;omega)
  refine Ev.gT ?_
  refine Wk.caser 32 rfl (fun h1=>?_) (fun h1=>?_)
  ·refine Ev.gT ?_
   refine Wk.ret ⟨_,Rs.tmp rfl Rs.nil,_,Sub.none _,Bis.of (by simp at h1 ⊢;exact ⟨fun h=>⟨by cases l;contradiction;simp,by omega,hall⟩,fun h=>by have:=h.2.1;omega⟩),rfl,rfl⟩
  ·refine Ev.gT ?_
   refine Wk.ret ⟨_,Rs.tmp rfl Rs.nil,_,Sub.none _,Bis.of (by simp only [Bool.false_eq_true,false_iff];intro k;have:=k.1;simp at h1;subst h1;simp at this),rfl,rfl⟩
theorem rAreKeys {Z:Zone} {v:Value} {l:List Int} (h:Sl Z 1 v l.length (l.map (Value.int .i64))) (hn:l.length≤17592186044416) :
  Cz M (.func (.func 97) #[] #[]) [v] Z [] (fun v' Z' A'=>Bis v' (KeysOk l)∧Z=Z'∧A'=[]):=by
 obtain ⟨a1,c1,rfl⟩:=h.form
 have no:∀ {Z':Zone} {i:Nat},i < l.length→¬ KeyAt l i→Bis (outOf [.bool false]) (KeysOk l)∧Z'=Z'∧([]:List SA)=[]:=fun hi h=>⟨Bis.of (by simp only [Bool.false_eq_true,false_iff];exact fun k=>h (k.2.2 _ hi)),rfl,rfl⟩
 refine Cz.fn (f:=Tryz.f97) Ev.cM rfl rfl rfl _ rfl ?_
 refine Ev.gT ?_
 refine Wk.loop (fun mm L Z' A'=>∃ j:Nat,j≤l.length∧mm=l.length - j∧Z=Z'∧Sub A' []∧(∀ i,i < j→KeyAt l i)∧Kp L [(0,.slice a1 l.length c1),(3,.int .i64 j)]) (l.length) ⟨0,Nat.zero_le _,rfl,rfl,Ev.sM,fun i h=>by omega,Ev.kM⟩ ?_
 rintro mm L Z' A' - ⟨j,hjj,rfl,rfl,hsub,invj,hk⟩
 refine Wk.drop hsub ?_
 refine Wk.kp hk ?_
 clear hk hsub
 refine Ev.gT ?_
 refine Wk.cond rfl (fun hc=>?_) (fun hc=>?_)
 ·have hlt:j < l.length:=by simp at hc;omega
  clear hc
  have g1:getCells (l.map (Value.int .i64)) (j*1) 1=some [.int .i64 l[j]]:=getCells_map hlt
  refine Ev.gT ?_
  refine Wk.drawr (ms:=[0,0,3,7,15,31,63,127,255,511,1023,1023,4095,8191,1023,1023,33791,115711,246783,524287,1048575,2097151]) (l:=[0,1,2,3,4,5,6,7,8,9,10,11,12,13,14,15,16,17,18,19,20,21]) Ev.cM Ev.cM Ev.cM rfl ?_
  repeat first|refine go ?_|with_reducible intro _
  refine Wk.call rfl rfl (Spl.none _) (rIsNumber l[j]) Ev.cM rfl rfl ?_
  rintro v' Z' A' hz ⟨⟨b,rfl,hb⟩,rfl,rfl⟩
  refine Ev.gT ?_
  refine Wk.caser 16 rfl (fun h1=>?_) (fun h1=>?_)
  ·refine Ev.gT ?_
   refine Wk.ret ⟨_,Rs.tmp rfl Rs.nil,_,Sub.none _,no hlt (fun k=>by
    have hN:NumOk l[j]:=by obtain ⟨a,q1,q2,_⟩:=k;rw [List.getElem?_eq_getElem hlt] at q1;cases q1;exact q2
    rw [hb.2 hN] at h1;cases h1)⟩
  have hN:NumOk l[j]:=hb.1 (by simpa using h1)
  refine Ev.gT ?_
  refine Wk.caser 19 rfl (fun h2=>?_) (fun h2=>?_)
  ·cases j with
   | zero=>exfalso;simp at h2
   | succ i =>
   have e:((i+1:Nat):Int) - 1=(i:Int):=by omega
   have hi:i < l.length:=by omega
   have g2:getCells (l.map (Value.int .i64)) (i*1) 1=some [.int .i64 l[i]]:=getCells_map hi
   repeat first|refine go ?_|with_reducible intro _
   refine Wk.tellr 26 (.int .i64 i) rfl (by rw [e]) ?_
   repeat first|refine go ?_|with_reducible intro _
   refine Wk.cond rfl (fun h3=>?_) (fun h3=>?_)
   ·refine Ev.gT ?_
    refine Wk.ret ⟨_,Rs.tmp rfl Rs.nil,_,Sub.none _,no hlt (fun k=>by have:=((KeyAt.succ hlt).1 k).2;simp at h3;omega)⟩
   ·refine Ev.gT ?_
    refine Wk.inv ⟨_,by omega,(i+1)+1,by omega,rfl,rfl,Ev.sM,(nextQ invj ((KeyAt.succ hlt).2 ⟨hN,by simp at h3;omega⟩)),Ev.kM⟩
  ·have hj0:j=0:=by simp at h2;omega
   subst hj0
   refine Ev.gT ?_
   refine Wk.inv ⟨_,by omega,0+1,by omega,rfl,rfl,Ev.sM,(nextQ invj ((KeyAt.zero hlt).2 hN)),Ev.kM⟩
 ·have hall:∀ i,i < l.length→KeyAt l i:=fun i hi=>invj i (by simp at hc;omega)
  refine Ev.gT ?_
  refine Wk.call rfl rfl (Spl.none _) (In_ l.length 1 40) rfl rfl rfl ?_
  rintro v' Z' A' hz ⟨⟨b,rfl,hb⟩,rfl,rfl⟩
  refine Ev.gT ?_
  refine Wk.ret ⟨_,Rs.tmp rfl Rs.nil,_,Sub.none _,Bis.of (by rw [hb];exact ⟨fun h=>⟨by omega,by omega,hall⟩,fun h=>⟨by have:=h.1;omega,by have:=h.2.1;omega⟩⟩),rfl,rfl⟩
theorem indexEls {Z:Zone} {v fv:Value} {us:List Value} {n:Nat} (p:Nat→Prop) (s:Sl Z 4 v n us) (hn:n≤2199023255552)
  (hp:∀ i,i < n→∃ k m a1 m1 c1 a2 m2 c2,getCells us (i*4) 4=some [.int .u8 k,.int .i64 m,.slice a1 m1 c1,.slice a2 m2 c2]∧Cz M fv [.agg ⟨[.int .u8 k,.int .i64 m,.slice a1 m1 c1,.slice a2 m2 c2]⟩] Z [] (fun v' Z' A'=>Bis v' (p i)∧Z=Z'∧A'=[])) :
  Cz M (.func (.func 141) #[] #[]) [v,fv] Z [] (fun v' Z' A'=>(∃ r:Int,v'=.int .i64 r∧(0≤r↔∃ i,i < n∧p i))∧Z=Z'∧A'=[]):=by
 obtain ⟨a1,c1,rfl⟩:=s.form
 refine Cz.fn (f:=Tryz.f141) Ev.cM rfl rfl rfl _ rfl ?_
 refine Ev.gT ?_
 refine Wk.loop (fun mm L Z' A'=>∃ j:Nat,j≤n∧mm=n - j∧Z=Z'∧Sub A' []∧(∀ i,i < j→¬ p i)∧Kp L [(0,.slice a1 n c1),(1,fv),(7,.int .i64 n),(8,.int .i64 j)]) (n) ⟨0,Nat.zero_le _,rfl,rfl,Ev.sM,fun i h=>by omega,Ev.kM⟩ ?_
 rintro mm L Z' A' - ⟨j,hjj,rfl,rfl,hsub,invj,hk⟩
 refine Wk.drop hsub ?_
 refine Wk.kp hk ?_
 clear hk hsub
 refine Ev.gT ?_
 refine Wk.cond rfl (fun hc=>?_) (fun hc=>?_)
 ·have hlt:j < n:=by simp at hc;omega
  clear hc
  obtain ⟨k,m,x1,m1,y1,x2,m2,y2,g1,hcz⟩:=hp j hlt
  repeat first|refine go ?_|with_reducible intro _
  refine Wk.call rfl rfl (Spl.none _) (hcz) rfl rfl rfl ?_
  rintro v' Z' A' hz ⟨⟨b,rfl,hb⟩,rfl,rfl⟩
  refine Ev.gT ?_
  refine Wk.cond rfl (fun hc=>?_) (fun hc=>?_)
  ·refine Ev.gT ?_
   refine Wk.ret ⟨_,Rs.tmp rfl Rs.nil,_,Sub.none _,⟨_,rfl,by simp only [Int.natCast_nonneg,true_iff];exact ⟨j,hlt,hb.1 hc⟩⟩,rfl,rfl⟩
  ·refine Ev.gT ?_
   refine Wk.inv ⟨_,by omega,j+1,by omega,rfl,rfl,Ev.sM,(nextQ invj (fun k=>by rw [hb.2 k] at hc;cases hc)),Ev.kM⟩
 ·refine Ev.gT ?_
  refine Wk.ret ⟨_,Rs.tmp rfl Rs.nil,_,Sub.none _,⟨_,rfl,⟨fun h=>by omega,fun ⟨i,hi,k⟩=>absurd k (invj i (by simp at hc;omega))⟩⟩,rfl,rfl⟩
theorem containsEls {Z:Zone} {v fv:Value} {us:List Value} {n:Nat} (p:Nat→Prop) (s:Sl Z 4 v n us) (hn:n≤2199023255552)
  (hp:∀ i,i < n→∃ k m a1 m1 c1 a2 m2 c2,getCells us (i*4) 4=some [.int .u8 k,.int .i64 m,.slice a1 m1 c1,.slice a2 m2 c2]∧Cz M fv [.agg ⟨[.int .u8 k,.int .i64 m,.slice a1 m1 c1,.slice a2 m2 c2]⟩] Z [] (fun v' Z' A'=>Bis v' (p i)∧Z=Z'∧A'=[])) :
  Cz M (.func (.func 87) #[] #[]) [v,fv] Z [] (fun v' Z' A'=>Bis v' (∃ i,i < n∧p i)∧Z=Z'∧A'=[]):=by
 refine Cz.fn (f:=Tryz.f87) Ev.cM rfl rfl rfl _ rfl ?_
 refine Ev.gT ?_
 refine Wk.call rfl rfl (Spl.none _) (indexEls p s hn hp) rfl rfl rfl ?_
 rintro v' Z' A' hz ⟨⟨r,rfl,hr⟩,rfl,rfl⟩
 refine Ev.gT ?_
 refine Wk.ret ⟨_,Rs.tmp rfl Rs.nil,_,Sub.none _,Bis.of (by rw [←hr];simp),rfl,rfl⟩
end Go.Proofs.J
namespace Go.Proofs.J
open Go.Ev Go
theorem tableIs {Z:Zone} {b:Nat} {n1 n2:ByteArray} {v1 v2 v3 k w:Value} (hb:Z b=some (.cells [k,.string n2,w] true 0)) :
  Cz M (.func (.func 143) #[] ⟨[.pointer (some ⟨b,0,none⟩)]⟩) [.agg ⟨[.string n1,v1,v2,v3]⟩] Z [] (fun v' Z' A'=>Bis v' (n1=n2)∧Z=Z'∧A'=[]):=by
 refine Cz.fn (f:=Tryz.f143) Ev.cM rfl rfl rfl _ rfl ?_
 repeat first|refine go ?_|with_reducible intro _
 refine Wk.ret ⟨_,Rs.tmp rfl Rs.nil,_,Sub.none _,Bis.of strEq,rfl,rfl⟩
theorem indexTblX {Z:Zone} {v fv:Value} {ts:List Tbl} (p:Nat→Prop) (s:TbsR Z v ts) (hn:ts.length≤1000000)
  (hp:∀ i (hi:i < ts.length) a1 m1 c1 a2 m2 c2 a3 m3 c3,Cz M fv [.agg ⟨[.string ts[i].name,.slice a1 m1 c1,.slice a2 m2 c2,.slice a3 m3 c3]⟩] Z [] (fun v' Z' A'=>Bis v' (p i)∧Z=Z'∧A'=[])) :
  Cz M (.func (.func 142) #[] #[]) [v,fv] Z [] (fun v' Z' A'=>((∃ i:Nat,v'=.int .i64 i∧i < ts.length∧p i∧∀ j,j < i→¬ p j)∨(v'=.int .i64 (-1)∧∀ i,i < ts.length→¬ p i))∧Z=Z'∧A'=[]):=by
 obtain ⟨us,hs,hrows⟩:=s
 refine Cz.fn (f:=Tryz.f142) Ev.cM rfl rfl rfl _ rfl ?_
 refine Ev.gT ?_
 refine Wk.loop (fun mm L Z' A'=>∃ j:Nat,j≤ts.length∧mm=ts.length - j∧Z=Z'∧Sub A' []∧(∀ i,i < j→¬ p i)∧Kp L [(0,v),(1,fv),(6,v),(7,.int .i64 ts.length),(8,.int .i64 j)]) (ts.length) ⟨0,Nat.zero_le _,rfl,rfl,Ev.sM,fun i h=>by omega,Ev.kM⟩ ?_
 rintro mm L Z' A' - ⟨j,hjj,rfl,rfl,hsub,invj,hk⟩
 refine Wk.drop hsub ?_
 refine Wk.kp hk ?_
 clear hk hsub
 refine Ev.gT ?_
 refine Wk.cond rfl (fun hc=>?_) (fun hc=>?_)
 ·have hlt:j < ts.length:=by simp at hc;omega
  obtain ⟨nm,a1,m1,c1,a2,m2,c2,a3,m3,c3,g1,g2⟩:=hrows j hlt
  obtain rfl:=g2.name
  repeat first|refine go ?_|with_reducible intro _
  refine Wk.call rfl rfl (Spl.none _) (hp j hlt a1 m1 c1 a2 m2 c2 a3 m3 c3) rfl rfl rfl ?_
  rintro v' Z' A' hz ⟨⟨b,rfl,hb⟩,rfl,rfl⟩
  refine Ev.gT ?_
  refine Wk.cond rfl (fun hc=>?_) (fun hc=>?_)
  ·refine Ev.gT ?_
   refine Wk.ret ⟨_,Rs.tmp rfl Rs.nil,_,Sub.none _,.inl ⟨j,rfl,hlt,hb.1 hc,invj⟩,rfl,rfl⟩
  ·refine Ev.gT ?_
   refine Wk.inv ⟨_,by omega,j+1,by omega,rfl,rfl,Ev.sM,(nextP invj (fun h=>by rw [hb.2 h] at hc;cases hc)),Ev.kM⟩
 ·refine Ev.gT ?_
  refine Wk.ret ⟨_,Rs.tmp rfl Rs.nil,_,Sub.none _,.inr ⟨rfl,fun i h=>invj i (by simp at hc;omega)⟩,rfl,rfl⟩
theorem table_ {Z:Zone} {cs sc:List Value} {l:Lat} {s:Shp} (h:LatR Z cs l) (hs:ShR Z s sc) (hn:l.1.length≤1000000) (hN:∃ t∈l.1,t.name=s.name) :
  Cz M (.func (.func 88) #[] #[]) [.agg ⟨cs⟩,.agg ⟨sc⟩] Z [] (fun v' Z' A'=>(∃ t nm a1 m1 c1 a2 m2 c2 a3 m3 c3,v'=.agg ⟨[.string nm,.slice a1 m1 c1,.slice a2 m2 c2,.slice a3 m3 c3]⟩∧Tof l.1 s.name t∧TbR Z nm (.slice a1 m1 c1) (.slice a2 m2 c2) (.slice a3 m3 c3) t)∧Z=Z'∧A'=[]):=by
 refine Cz.shrink ?_
 obtain ⟨a1,c1,a2,c2,rfl,hT,hS⟩:=h.form
 obtain ⟨ak,ck,usk,rfl,_,_⟩:=hs.form
 refine Cz.fn (f:=Tryz.f88) Ev.cM rfl rfl rfl _ rfl ?_
 repeat first|refine go ?_|with_reducible intro _
 rename_i b2 b3 b4
 apply Wk.freezer (b:=b3)
 case p=>repeat (first|exact Rem.head|apply Rem.tail)
 intro Z1 e1 hb3
 have hT1:=hT.mono e1
 refine Wk.call rfl rfl (Spl.none _) (indexTblX (fun i=>∃ h:i < l.1.length,l.1[i].name=s.name) hT1 hn (fun i hi a1 m1 c1 a2 m2 c2 a3 m3 c3=>(tableIs hb3).mono fun v' Z' A' _ q=>⟨q.1.imp ⟨fun e=>⟨hi,e⟩,fun ⟨_,e⟩=>e⟩,q.2⟩)) rfl rfl rfl ?_
 rintro v' Z' A' hz ⟨⟨i,rfl,hi,hpi,hfirst⟩|⟨rfl,hall⟩,rfl,rfl⟩
 ·obtain ⟨us,hsl,hrow⟩:=hT
  have hsl1:=hsl.mono e1
  obtain ⟨nm,x1,m1,d1,x2,m2,d2,x3,m3,d3,g1,g2⟩:=hrow i hi
  repeat first|refine go ?_|with_reducible intro _
  refine Wk.ret ⟨_,Rs.cell rfl rfl Ev.hM rfl rfl Rs.nil,_,Sub.none _,⟨l.1[i],_,_,_,_,_,_,_,_,_,_,rfl,⟨i,hi,rfl,hpi.2,fun j hj e=>hfirst j hj ⟨by omega,e⟩⟩,g2⟩,rfl⟩
 ·exfalso
  obtain ⟨t,ht,e⟩:=hN
  obtain ⟨i,hi,rfl⟩:=List.getElem_of_mem ht
  exact hall i hi ⟨hi,e⟩
end Go.Proofs.J
namespace Go.Proofs.J
open Go.Ev Go
theorem hasEq (x y:Operand) (b1 b2 b3:Bool):abin M.T .eql 141 x y (.agg ⟨[.bool b1,.bool b2,.bool b3]⟩) (.agg ⟨[.bool false,.bool false,.bool false]⟩)=some (.bool (!b1&&!b2&&!b3)):=by
 cases b1<;>cases b2<;>cases b3<;>kernel_rfl
theorem bare_iff (e:El):(!(decide (e.n≠0))&&!(decide (0 < e.keys.length))&&!(decide (0 < e.kids.length)))=true↔e.n=0∧e.Bare:=by
 simp [El.Bare,and_assoc]
theorem bare0 (e:El):((El.mk e.kind 0 e.keys e.kids).n=0∧(El.mk e.kind 0 e.keys e.kids).Bare)↔e.Bare:=⟨fun h=>h.2,fun h=>⟨rfl,h⟩⟩
theorem Shp.Ok.kids_ {s:Shp} (h:s.Ok):kidsOf s.kind=some s.kids.length∧∀ k∈s.kids,k.Ok:=by
 cases s
 simp only [Shp.Ok] at h
 exact ⟨h.1,ShpOkL_iff.1 h.2.2.2⟩
theorem Shp.Named.kids_ {ts:List Tbl} {s:Shp} (h:s.Named ts):∀ k∈s.kids,k.Named ts:=by
 cases s
 simp only [Shp.Named] at h
 exact ShpNamedL_iff.1 h.2
theorem elemIs {Z:Zone} {b3 b4:Nat} {w1 w2 w3 w4:Value} {k k0:Int} {nn n0:ByteArray} {ap a0:Option Addr} {mm ac m0 c0:Nat} {usk ce:List Value} {e:El} {P:Prop} (hb3:Z b3=some (.cells [w1,w2,w3,w4] true 0)) (hb4:Z b4=some (.cells [.int .u8 k,.string nn,.slice ap mm ac] true 0))
  (hsk:Sl Z 3 (.slice ap mm ac) mm usk) (hm:0 < mm) (g0:getCells usk (0*3) 3=some [.int .u8 k0,.string n0,.slice a0 m0 c0]) (he:ElR Z e ce)
  (hcz:Cz M (.func (.func 86) #[] #[]) [.agg ⟨[w1,w2,w3,w4]⟩,.agg ⟨[.int .u8 k0,.string n0,.slice a0 m0 c0]⟩,.agg ⟨ce⟩] Z [] (fun v' Z' A'=>Bis v' P∧Z=Z'∧A'=[])) :
  Cz M (.func (.func 140) #[] ⟨[.pointer (some ⟨b3,0,none⟩),.pointer (some ⟨b4,0,none⟩)]⟩) [.agg ⟨ce⟩] Z [] (fun v' Z' A'=>Bis v' (e.Bot∨¬ P)∧Z=Z'∧A'=[]):=by
 have he0:=he
 obtain ⟨q1,q2,q3,q4,use,rfl,ek,es,eL⟩:=he.form
 refine Cz.fn (f:=Tryz.f140) Ev.cM rfl rfl rfl _ rfl ?_
 repeat first|refine go ?_|with_reducible intro _
 refine Wk.drawr (ms:=[0,1,3,7,7,23,55,119,7,511,1023,2047,4095]) (l:=[0,1,2,3,4,5,6,7,8,9,10,11,12]) Ev.cM Ev.cM Ev.cM rfl ?_
 refine Ev.gT ?_
 refine Wk.call rfl rfl (Spl.none _) (isBottom he0) Ev.cM rfl rfl ?_
 rintro v' Z' A' hz ⟨⟨b,rfl,hb⟩,rfl,rfl⟩
 refine Ev.gT ?_
 refine Wk.caser 7 rfl (fun hc=>?_) (fun hc=>?_)
 ·refine Ev.gT ?_
  refine Wk.ret ⟨_,Rs.tmp rfl Rs.nil,_,Sub.none _,Bis.of (by simp only [true_iff];exact .inl (hb.1 hc)),rfl,rfl⟩
 ·have nb:¬ e.Bot:=fun k=>by rw [hb.2 k] at hc;cases hc
  repeat first|refine go ?_|with_reducible intro _
  try refine Wk.iaSl 0 hsk rfl rfl rfl rfl rfl rfl rfl hm g0 fun _ _ _=>?_
  refine Ev.gT ?_
  refine Wk.call rfl rfl (Spl.none _) (hcz) Ev.cM rfl rfl ?_
  rintro v' Z' A' hz ⟨⟨b2,rfl,hb2⟩,rfl,rfl⟩
  refine Ev.gT ?_
  refine Wk.ret ⟨_,Rs.tmp rfl Rs.nil,_,Sub.none _,Bis.of (by simp only [nb,false_or,←hb2];cases b2<;>simp),rfl,rfl⟩
theorem Shp.Named.tab {ts:List Tbl} {s:Shp} (h:s.Named ts) (k:s.kind=5):∃ t∈ts,t.name=s.name:=by
 cases s
 simp only [Shp.Named] at h
 exact h.1 k
theorem isElem_:∀ (d:Nat) {s:Shp} {e:El} {dd:Nat} {Z:Zone} {cl cs ce:List Value} {l:Lat},LatR Z cl l→l.1.length≤1000000→s.levels≤d→s.Ok→s.Named l.1→ShR Z s cs→e.Fit dd→ElR Z e ce →
  Cz M (.func (.func 86) #[] #[]) [.agg ⟨cl⟩,.agg ⟨cs⟩,.agg ⟨ce⟩] Z [] (fun v' Z' A'=>Bis v' (IsE l.1 d s e)∧Z=Z'∧A'=[])
 | 0,s,e,dd,Z,cl,cs,ce,l,hl,hn,hd,hok,hN,hs,hf,he=>by exfalso;have:=s.levels_pos;omega
 | d+1,s,e,dd,Z,cl,cs,ce,l,hl,hn,hd,hok,hN,hs,hf,he=>by
  refine Cz.shrink ?_
  cases dd with
  | zero=>exact hf.pos.elim
  | succ dd =>
  have hl0:=hl
  have hs0:=hs
  have he0:=he
  obtain ⟨l1,l2,l3,l4,rfl,_,_⟩:=hl.form
  obtain ⟨p1,p2,usk,rfl,hsk,hsL⟩:=hs.form
  obtain ⟨q1,q2,q3,q4,use,rfl,ek,es,eL⟩:=he.form
  refine Cz.fn (f:=Tryz.f86) Ev.cM rfl rfl rfl _ rfl ?_
  repeat first|refine go ?_|with_reducible intro _
  rename_i b3 b4 b5
  apply Wk.freezer (b:=b3)
  case p=>repeat (first|exact Rem.head|apply Rem.tail)
  intro Z1 e1 hb3
  apply Wk.freezer (b:=b4)
  case p=>repeat (first|exact Rem.head|apply Rem.tail)
  intro Z2 e2 hb4
  replace hb3:=e2 _ _ hb3
  have e12:=e1.trans e2
  replace he:=he.mono e12
  refine Ev.gT ?_
  refine Wk.call rfl rfl (Spl.none _) (isBottom he) rfl rfl rfl ?_
  rintro v' Z' A' hz ⟨⟨b,rfl,hb⟩,rfl,rfl⟩
  refine Ev.gT ?_
  refine Wk.cond rfl (fun hc=>?_) (fun hc=>?_)
  ·refine Ev.gT ?_
   refine Wk.ret ⟨_,Rs.tmp rfl Rs.nil,_,Sub.none _,Bis.of (by simp only [true_iff];exact .inl (hb.1 hc)),rfl⟩
  have nb:¬ e.Bot:=fun k=>by rw [hb.2 k] at hc;cases hc
  refine Ev.gT ?_
  refine Wk.buildA rfl rfl rfl rfl rfl rfl ?_
  repeat first|refine go ?_|with_reducible intro _
  refine Wk.cond rfl (fun k1=>?_) (fun k1=>?_)
  ·replace k1:e.kind=1:=by simpa using k1
   refine Ev.gT ?_
   refine Wk.drawr (ms:=[0,1,3,7,15,31,15,127,255,511]) (l:=[0,1,2,3,4,6,5,7,8,9]) Ev.cM Ev.cM Ev.cM rfl ?_
   refine Ev.gT ?_
   have hE:ElR Z2 e [.int .u8 e.kind,.int .i64 e.n,.slice q1 e.keys.length q2,.slice q3 e.kids.length q4]:=he
   have hI:IsE l.1 (d+1) s e↔s.kind=1∧e.n=0∧e.Bare:=by simp only [IsE,nb,k1];simp
   refine Wk.caser 22 rfl (fun hc=>?_) (fun hc=>?_)
   ·replace hc:s.kind=1:=by simpa using hc
    refine Ev.gT ?_
    refine Wk.callD rfl rfl (Spl.none _) (has_ hE) rfl rfl fun v24 Z9 A' hz9 hq=>?_
    obtain ⟨rfl,rfl,rfl⟩:=hq
    refine ⟨?_,?_⟩
    ·exact Ev.pM1
    refine Ev.gT ?_
    refine Wk.bin rfl rfl (hasEq _ _ _ _ _) rfl rfl ?_
    refine Ev.gT ?_
    refine Wk.ret ⟨_,Rs.tmp rfl Rs.nil,_,Sub.none _,Bis.of (by rw [bare_iff,hI];simp [hc]),rfl⟩
   ·refine Ev.gT ?_
    refine Wk.ret ⟨_,Rs.tmp rfl Rs.nil,_,Sub.none _,Bis.of (by rw [hI];simp at hc;simp [hc]),rfl⟩
  refine Ev.gT ?_
  refine Wk.cond rfl (fun k3=>?_) (fun k3=>?_)
  ·replace k3:e.kind=3:=by simpa using k3
   refine Ev.gT ?_
   refine Wk.drawr (ms:=[0,1,3,7,15,31,15,127,255,511]) (l:=[0,1,2,3,4,6,5,7,8,9]) Ev.cM Ev.cM Ev.cM rfl ?_
   refine Ev.gT ?_
   have hE:ElR Z2 e [.int .u8 e.kind,.int .i64 e.n,.slice q1 e.keys.length q2,.slice q3 e.kids.length q4]:=he
   have hI:IsE l.1 (d+1) s e↔s.kind=4∧e.n=0∧e.Bare:=by simp only [IsE,nb,k3];simp
   refine Wk.caser 33 rfl (fun hc=>?_) (fun hc=>?_)
   ·replace hc:s.kind=4:=by simpa using hc
    refine Ev.gT ?_
    refine Wk.callD rfl rfl (Spl.none _) (has_ hE) rfl rfl fun v24 Z9 A' hz9 hq=>?_
    obtain ⟨rfl,rfl,rfl⟩:=hq
    refine ⟨?_,?_⟩
    ·exact Ev.pM1
    refine Ev.gT ?_
    refine Wk.bin rfl rfl (hasEq _ _ _ _ _) rfl rfl ?_
    refine Ev.gT ?_
    refine Wk.ret ⟨_,Rs.tmp rfl Rs.nil,_,Sub.none _,Bis.of (by rw [bare_iff,hI];simp [hc]),rfl⟩
   ·refine Ev.gT ?_
    refine Wk.ret ⟨_,Rs.tmp rfl Rs.nil,_,Sub.none _,Bis.of (by rw [hI];simp at hc;simp [hc]),rfl⟩
  have hE:ElR Z2 (El.mk e.kind 0 e.keys e.kids) [.int .u8 e.kind,.int .i64 0,.slice q1 e.keys.length q2,.slice q3 e.kids.length q4]:=ElR.of (s:=El.mk e.kind 0 e.keys e.kids) (ek.mono e12) (es.mono e12) (eL.mono e12)
  refine Ev.gT ?_
  refine Wk.cond rfl (fun k2=>?_) (fun k2=>?_)
  ·replace k2:e.kind=2:=by simpa using k2
   have hI:IsE l.1 (d+1) s e↔(s.kind=2∨s.kind=4)∧NumOk e.n∧e.Bare:=by simp only [IsE,nb,k2];simp
   refine Ev.gT ?_
   refine Wk.drawr (ms:=[0,1,3,7,15,31,63,127,255,511,1023,2047,4095,8191,16383,8191,65535,131071,262143]) (l:=[0,1,2,3,4,5,6,7,8,9,10,11,12,13,15,14,16,17,18]) Ev.cM Ev.cM Ev.cM rfl ?_
   refine Ev.gT ?_
   refine Wk.caser 45 rfl (fun hc=>?_) (fun hc=>?_)
   ·replace hc:s.kind=2:=by simpa using hc
    refine Ev.gT ?_
    refine Wk.call rfl rfl (Spl.none _) (isInt_ e.n) Ev.cM rfl rfl ?_
    rintro v' Z' A' hz ⟨⟨b,rfl,hb⟩,rfl,rfl⟩
    refine Ev.gT ?_
    refine Wk.caser 54 rfl (fun hn2=>?_) (fun hn2=>?_)
    ·refine Ev.gT ?_
     refine Wk.callD rfl rfl (Spl.none _) (has_ hE) rfl rfl fun v24 Z9 A' hz9 hq=>?_
     obtain ⟨rfl,rfl,rfl⟩:=hq
     refine ⟨?_,?_⟩
     ·exact Ev.pM1
     refine Ev.gT ?_
     refine Wk.bin rfl rfl (hasEq _ _ _ _ _) rfl rfl ?_
     refine Ev.gT ?_
     refine Wk.ret ⟨_,Rs.tmp rfl Rs.nil,_,Sub.none _,Bis.of (by rw [bare_iff,bare0,hI];exact ⟨fun h=>⟨.inl hc,hb.1 hn2,h⟩,fun h=>h.2.2⟩),rfl⟩
    ·refine Ev.gT ?_
     refine Wk.ret ⟨_,Rs.tmp rfl Rs.nil,_,Sub.none _,Bis.of (by rw [hI];simp only [Bool.false_eq_true,false_iff];intro h;rw [hb.2 h.2.1] at hn2;cases hn2),rfl⟩
   ·refine Ev.gT ?_
    refine Wk.caser 50 rfl (fun hc4=>?_) (fun hc4=>?_)
    ·replace hc4:s.kind=4:=by simpa using hc4
     refine Ev.gT ?_
     refine Wk.call rfl rfl (Spl.none _) (isInt_ e.n) Ev.cM rfl rfl ?_
     rintro v' Z' A' hz ⟨⟨b,rfl,hb⟩,rfl,rfl⟩
     refine Ev.gT ?_
     refine Wk.caser 54 rfl (fun hn2=>?_) (fun hn2=>?_)
     ·refine Ev.gT ?_
      refine Wk.callD rfl rfl (Spl.none _) (has_ hE) rfl rfl fun v24 Z9 A' hz9 hq=>?_
      obtain ⟨rfl,rfl,rfl⟩:=hq
      refine ⟨?_,?_⟩
      ·exact Ev.pM1
      refine Ev.gT ?_
      refine Wk.bin rfl rfl (hasEq _ _ _ _ _) rfl rfl ?_
      refine Ev.gT ?_
      refine Wk.ret ⟨_,Rs.tmp rfl Rs.nil,_,Sub.none _,Bis.of (by rw [bare_iff,bare0,hI];exact ⟨fun h=>⟨.inr hc4,hb.1 hn2,h⟩,fun h=>h.2.2⟩),rfl⟩
     ·refine Ev.gT ?_
      refine Wk.ret ⟨_,Rs.tmp rfl Rs.nil,_,Sub.none _,Bis.of (by rw [hI];simp only [Bool.false_eq_true,false_iff];intro h;rw [hb.2 h.2.1] at hn2;cases hn2),rfl⟩
    ·refine Ev.gT ?_
     refine Wk.ret ⟨_,Rs.tmp rfl Rs.nil,_,Sub.none _,Bis.of (by rw [hI];simp at hc hc4;simp [hc,hc4]),rfl⟩
  refine Ev.gT ?_
  refine Wk.cond rfl (fun k4=>?_) (fun k4=>?_)
  ·replace k4:e.kind=4:=by simpa using k4
   have hI:IsE l.1 (d+1) s e↔s.kind=5∧(∃ t,Tof l.1 s.name t∧1≤e.n∧e.n < t.elems.length)∧e.Bare:=by simp only [IsE,nb,k4];simp
   refine Ev.gT ?_
   refine Wk.drawr (ms:=[0,1,3,7,15,31,63,127,255,255,255,1791,3839,7935,16383,32767,65535,131071,262143,131071,1048575,2097151,4194303]) (l:=[0,1,2,3,4,5,6,7,8,9,10,11,12,13,14,15,16,17,19,18,20,21,22]) Ev.cM Ev.cM Ev.cM rfl ?_
   refine Ev.gT ?_
   refine Wk.caser 66 rfl (fun hc=>?_) (fun hc=>?_)
   ·replace hc:s.kind=5:=by simpa using hc
    refine Ev.gT ?_
    refine Wk.caser 70 rfl (fun hp=>?_) (fun hp=>?_)
    ·replace hp:1≤e.n:=by simp at hp;omega
     refine Ev.gT ?_
     refine Wk.call rfl rfl (Spl.none _) (table_ (hl.mono e12) (hs.mono e12) hn (hN.tab hc)) Ev.cM rfl rfl ?_
     rintro v' Z' A' hz ⟨⟨t,nm,x1,m1,y1,x2,m2,y2,x3,m3,y3,rfl,hT,hTb⟩,rfl,rfl⟩
     obtain ⟨_,_,em⟩:=hTb.elems.form
     cases em
     refine Ev.gT ?_
     refine Wk.caser 79 rfl (fun hlt=>?_) (fun hlt=>?_)
     ·replace hlt:e.n < t.elems.length:=by simpa using hlt
      refine Ev.gT ?_
      refine Wk.callD rfl rfl (Spl.none _) (has_ hE) rfl rfl fun v24 Z9 A' hz9 hq=>?_
      obtain ⟨rfl,rfl,rfl⟩:=hq
      refine ⟨?_,?_⟩
      ·exact Ev.pM1
      refine Ev.gT ?_
      refine Wk.bin rfl rfl (hasEq _ _ _ _ _) rfl rfl ?_
      refine Ev.gT ?_
      refine Wk.ret ⟨_,Rs.tmp rfl Rs.nil,_,Sub.none _,Bis.of (by rw [bare_iff,bare0,hI];exact ⟨fun h=>⟨hc,⟨t,hT,hp,hlt⟩,h⟩,fun h=>h.2.2⟩),rfl⟩
     ·refine Ev.gT ?_
      refine Wk.ret ⟨_,Rs.tmp rfl Rs.nil,_,Sub.none _,Bis.of (by rw [hI];simp only [Bool.false_eq_true,false_iff];rintro ⟨_,⟨u,hu,_,h⟩,_⟩;rw [hu.uniq hT] at h;simp at hlt;omega),rfl⟩
    ·refine Ev.gT ?_
     refine Wk.ret ⟨_,Rs.tmp rfl Rs.nil,_,Sub.none _,Bis.of (by rw [hI];simp only [Bool.false_eq_true,false_iff];rintro ⟨_,⟨u,hu,h,_⟩,_⟩;simp at hp;omega),rfl⟩
   ·refine Ev.gT ?_
    refine Wk.ret ⟨_,Rs.tmp rfl Rs.nil,_,Sub.none _,Bis.of (by rw [hI];simp at hc;simp [hc]),rfl⟩
  refine Ev.gT ?_
  refine Wk.cond rfl (fun k5=>?_) (fun k5=>?_)
  ·replace k5:e.kind=5:=by simpa using k5
   have hI:IsE l.1 (d+1) s e↔s.kind=3∧e.n=0∧e.kids.length=0∧KeysOk e.keys:=by simp only [IsE,nb,k5];simp
   refine Ev.gT ?_
   refine Wk.caser 90 rfl (fun hc=>?_) (fun hc=>?_)
   ·replace hc:s.kind=3:=by simpa using hc
    refine Ev.gT ?_
    refine Wk.caser 94 rfl (fun h0=>?_) (fun h0=>?_)
    ·replace h0:e.n=0:=by simpa using h0
     refine Ev.gT ?_
     refine Wk.caser 100 rfl (fun hk=>?_) (fun hk=>?_)
     ·replace hk:e.kids.length=0:=by simpa using hk
      refine Ev.gT ?_
      refine Wk.call rfl rfl (Spl.none _) (areKeys_ (ek.mono e12) hf.sm.1) rfl rfl rfl ?_
      rintro v' Z' A' hz ⟨⟨b,rfl,hb⟩,rfl,rfl⟩
      refine Ev.gT ?_
      refine Wk.ret ⟨_,Rs.tmp rfl Rs.nil,_,Sub.none _,Bis.of (by rw [hI,hb];exact ⟨fun h=>⟨hc,h0,hk,h⟩,fun h=>h.2.2.2⟩),rfl⟩
     ·refine Ev.gT ?_
      refine Wk.ret ⟨_,Rs.tmp rfl Rs.nil,_,Sub.none _,Bis.of (by rw [hI];simp only [Bool.false_eq_true,false_iff];rintro ⟨_,_,h,_⟩;simp [h] at hk),rfl⟩
    ·refine Ev.gT ?_
     refine Wk.ret ⟨_,Rs.tmp rfl Rs.nil,_,Sub.none _,Bis.of (by rw [hI];simp only [Bool.false_eq_true,false_iff];rintro ⟨_,h,_⟩;simp [h] at h0),rfl⟩
   ·refine Ev.gT ?_
    refine Wk.ret ⟨_,Rs.tmp rfl Rs.nil,_,Sub.none _,Bis.of (by rw [hI];simp only [Bool.false_eq_true,false_iff];rintro ⟨h,_⟩;simp [h] at hc),rfl⟩
  refine Ev.gT ?_
  refine Wk.cond rfl (fun k6=>?_) (fun k6=>?_)
  ·replace k6:e.kind=6:=by simpa using k6
   have hI:IsE l.1 (d+1) s e↔s.kind=6∧e.n=0∧KeysOk e.keys∧e.kids.length=e.keys.length∧∀ i (h:i < e.kids.length),¬ (e.kids[i]).Bot∧∃ h2:0 < s.kids.length,IsE l.1 d s.kids[0] e.kids[i]:=by simp only [IsE,nb,k6];simp
   refine Ev.gT ?_
   refine Wk.caser 111 rfl (fun hc=>?_) (fun hc=>?_)
   ·replace hc:s.kind=6:=by simpa using hc
    have hk1:s.kids.length=1:=by have:=hok.kids_.1;rw [hc] at this;simp [kidsOf] at this;omega
    have hk0:0 < s.kids.length:=by omega
    refine Ev.gT ?_
    refine Wk.caser 115 rfl (fun h0=>?_) (fun h0=>?_)
    ·replace h0:e.n=0:=by simpa using h0
     refine Ev.gT ?_
     refine Wk.call rfl rfl (Spl.none _) (areKeys_ (ek.mono e12) hf.sm.1) rfl rfl rfl ?_
     rintro v' Z' A' hz ⟨⟨b,rfl,hb⟩,rfl,rfl⟩
     refine Ev.gT ?_
     refine Wk.caser 120 rfl (fun hK=>?_) (fun hK=>?_)
     ·replace hK:=hb.1 hK
      refine Ev.gT ?_
      refine Wk.caser 129 rfl (fun hL=>?_) (fun hL=>?_)
      ·replace hL:e.kids.length=e.keys.length:=by simp at hL;omega
       obtain ⟨k0,n0,a0,m0,c0,g0,r0⟩:=hsL.get 0 hk0
       refine Ev.gT ?_
       refine Wk.call rfl rfl (Spl.none _) (containsEls (fun i=>∃ h:i < e.kids.length,(e.kids[i]).Bot∨¬ IsE l.1 d s.kids[0] e.kids[i]) (es.mono e12) hf.sm.2.1 (fun i hi=>by
        obtain ⟨k,m,x1,m1,y1,x2,m2,y2,gi,qi⟩:=eL.get i hi
        refine ⟨k,m,x1,m1,y1,x2,m2,y2,gi,?_⟩
        refine (elemIs hb3 hb4 (hsk.mono e12) hk0 g0 (qi.mono e12) (isElem_ d (hl.mono e12) hn (Shp.kid_levels hd hk0) (hok.kids_.2 _ (List.getElem_mem hk0)) (hN.kids_ _ (List.getElem_mem hk0)) (r0.mono e12) (hf.kid hi) (qi.mono e12))).mono fun v' Z' A' _ q=>⟨q.1.imp ⟨fun h=>⟨hi,h⟩,fun ⟨_,h⟩=>h⟩,q.2⟩)) rfl rfl rfl ?_
       rintro v' Z' A' hz ⟨⟨b2,rfl,hb2⟩,rfl,rfl⟩
       refine Ev.gT ?_
       have hx:(!b2)=true↔∀ i (h:i < e.kids.length),¬ (e.kids[i]).Bot∧∃ h2:0 < s.kids.length,IsE l.1 d s.kids[0] e.kids[i]:=by
        constructor
        ·intro hb3 i hi
         have hno:¬ ∃ i,i < e.kids.length∧∃ h:i < e.kids.length,(e.kids[i]).Bot∨¬ IsE l.1 d s.kids[0] e.kids[i]:=fun k=>by rw [hb2.2 k] at hb3;cases hb3
         refine ⟨fun k=>hno ⟨i,hi,hi,.inl k⟩,hk0,Classical.byContradiction fun k=>hno ⟨i,hi,hi,.inr k⟩⟩
        ·intro h
         cases hb2':b2 with
         | false=>rfl
         | true =>
          obtain ⟨i,hi,_,k⟩:=hb2.1 hb2'
          obtain ⟨h1,_,h2⟩:=h i hi
          rcases k with k|k
          ·exact absurd k h1
          ·exact absurd h2 k
       refine Wk.ret ⟨_,Rs.tmp rfl Rs.nil,_,Sub.none _,Bis.of (by rw [hI,hx];exact ⟨fun h=>⟨hc,h0,hK,hL,h⟩,fun h=>h.2.2.2.2⟩),rfl⟩
      ·refine Ev.gT ?_
       refine Wk.ret ⟨_,Rs.tmp rfl Rs.nil,_,Sub.none _,Bis.of (by rw [hI];simp only [Bool.false_eq_true,false_iff];rintro ⟨_,_,_,h,_⟩;simp [h] at hL),rfl⟩
     ·refine Ev.gT ?_
      refine Wk.ret ⟨_,Rs.tmp rfl Rs.nil,_,Sub.none _,Bis.of (by rw [hI];simp only [Bool.false_eq_true,false_iff];rintro ⟨_,_,h,_⟩;rw [hb.2 h] at hK;cases hK),rfl⟩
    ·refine Ev.gT ?_
     refine Wk.ret ⟨_,Rs.tmp rfl Rs.nil,_,Sub.none _,Bis.of (by rw [hI];simp only [Bool.false_eq_true,false_iff];rintro ⟨_,h,_⟩;simp [h] at h0),rfl⟩
   ·refine Ev.gT ?_
    refine Wk.ret ⟨_,Rs.tmp rfl Rs.nil,_,Sub.none _,Bis.of (by rw [hI];simp only [Bool.false_eq_true,false_iff];rintro ⟨h,_⟩;simp [h] at hc),rfl⟩
  refine Ev.gT ?_
  refine Wk.cond rfl (fun k7=>?_) (fun k7=>?_)
  ·replace k7:e.kind=7:=by simpa using k7
   have hI:IsE l.1 (d+1) s e↔s.kind=7∧e.n=0∧e.keys.length=0∧e.kids.length=2∧∃ (h:1 < e.kids.length) (h2:1 < s.kids.length),IsE l.1 d s.kids[0] e.kids[0]∧IsE l.1 d s.kids[1] e.kids[1]∧¬ ((e.kids[0]).Bot∧(e.kids[1]).Bot):=by simp only [IsE,nb,k7];simp
   refine Ev.gT ?_
   refine Wk.caser 141 rfl (fun hc=>?_) (fun hc=>?_)
   ·refine Ev.gT ?_
    refine Wk.ret ⟨_,Rs.tmp rfl Rs.nil,_,Sub.none _,Bis.of (by rw [hI];simp only [Bool.false_eq_true,false_iff];rintro ⟨h,_⟩;simp [h] at hc),rfl⟩
   replace hc:s.kind=7:=by simpa using hc
   have hk2:s.kids.length=2:=by have:=hok.kids_.1;rw [hc] at this;simp [kidsOf] at this;omega
   refine Ev.gT ?_
   refine Wk.caser 145 rfl (fun h0=>?_) (fun h0=>?_)
   ·refine Ev.gT ?_
    refine Wk.ret ⟨_,Rs.tmp rfl Rs.nil,_,Sub.none _,Bis.of (by rw [hI];simp only [Bool.false_eq_true,false_iff];rintro ⟨_,h,_⟩;simp [h] at h0),rfl⟩
   replace h0:e.n=0:=by simpa using h0
   refine Ev.gT ?_
   refine Wk.caser 151 rfl (fun hk=>?_) (fun hk=>?_)
   ·refine Ev.gT ?_
    refine Wk.ret ⟨_,Rs.tmp rfl Rs.nil,_,Sub.none _,Bis.of (by rw [hI];simp only [Bool.false_eq_true,false_iff];rintro ⟨_,_,h,_⟩;simp at hk;omega),rfl⟩
   replace hk:e.keys.length=0:=by simp at hk;simp [hk]
   refine Ev.gT ?_
   refine Wk.cond rfl (fun hL=>?_) (fun hL=>?_)
   ·refine Ev.gT ?_
    refine Wk.ret ⟨_,Rs.tmp rfl Rs.nil,_,Sub.none _,Bis.of (by rw [hI];simp only [Bool.false_eq_true,false_iff];rintro ⟨_,_,_,h,_⟩;simp [h] at hL),rfl⟩
   replace hL:e.kids.length=2:=by simp at hL;omega
   have s0:0 < s.kids.length:=by omega
   have s1:1 < s.kids.length:=by omega
   have t0:0 < e.kids.length:=by omega
   have t1:1 < e.kids.length:=by omega
   have hI2:IsE l.1 (d+1) s e↔IsE l.1 d s.kids[0] e.kids[0]∧IsE l.1 d s.kids[1] e.kids[1]∧¬ ((e.kids[0]).Bot∧(e.kids[1]).Bot):=by
    rw [hI];exact ⟨fun ⟨_,_,_,_,_,_,h⟩=>h,fun h=>⟨hc,h0,hk,hL,t1,s1,h⟩⟩
   obtain ⟨j0,n0,a0,m0,c0,g0,r0⟩:=hsL.get 0 s0
   obtain ⟨j1,n1,a1,m1,c1,g1,r1⟩:=hsL.get 1 s1
   obtain ⟨i0,o0,x0,y0,z0,u0,w0,f0,ge0,re0⟩:=eL.get 0 t0
   obtain ⟨i1,o1,x1,y1,z1,u1,w1,f1,ge1,re1⟩:=eL.get 1 t1
   replace r0:=r0.mono e12
   replace r1:=r1.mono e12
   replace re0:=re0.mono e12
   replace re1:=re1.mono e12
   have sk:=hsk.mono e12
   have ss:=es.mono e12
   have hl2:=hl.mono e12
   have C0:=isElem_ d hl2 hn (Shp.kid_levels hd s0) (hok.kids_.2 _ (List.getElem_mem s0)) (hN.kids_ _ (List.getElem_mem s0)) r0 (hf.kid t0) re0
   have C1:=isElem_ d hl2 hn (Shp.kid_levels hd s1) (hok.kids_.2 _ (List.getElem_mem s1)) (hN.kids_ _ (List.getElem_mem s1)) r1 (hf.kid t1) re1
   refine Ev.gT ?_
   refine Wk.drawr (ms:=[0,0,2,6,14,0,32,96,224,511,1023,2047,2047,6143,14335,30719,2047,67583,198655,460799,1048575,2097151,4194303,8388607,16777215,33554431,67108863,134217727,268435455,536870911,1073741823,2147483647,4294967295,8589934591,17179869183,34359738367,68719476735,137438953471]) (l:=[0,1,2,3,4,5,6,7,8,9,10,11,12,13,14,15,16,17,18,19,20,21,22,23,24,25,26,27,28,29,30,31,32,33,34,35,36,37]) Ev.cM Ev.cM Ev.cM rfl ?_
   repeat first|refine go ?_|with_reducible intro _
   try refine Wk.iaSl 0 sk rfl rfl rfl rfl rfl rfl rfl s0 g0 fun _ _ _=>?_
   refine Ev.gT ?_
   try refine Wk.iaSl 0 ss rfl rfl rfl rfl rfl rfl rfl t0 ge0 fun _ _ _=>?_
   refine Ev.gT ?_
   refine Wk.call rfl rfl (Spl.none _) (C0) Ev.cM rfl rfl ?_
   rintro v' Z' A' hz ⟨⟨b0,rfl,hb0⟩,rfl,rfl⟩
   refine Ev.gT ?_
   refine Wk.caser 167 rfl (fun q0=>?_) (fun q0=>?_)
   ·repeat first|refine go ?_|with_reducible intro _
    try refine Wk.iaSl 1 sk rfl rfl rfl rfl rfl rfl rfl s1 g1 fun _ _ _=>?_
    refine Ev.gT ?_
    try refine Wk.iaSl 1 ss rfl rfl rfl rfl rfl rfl rfl t1 ge1 fun _ _ _=>?_
    refine Ev.gT ?_
    refine Wk.call rfl rfl (Spl.none _) (C1) Ev.cM rfl rfl ?_
    rintro v' Z' A' hz ⟨⟨b1,rfl,hb1⟩,rfl,rfl⟩
    refine Ev.gT ?_
    refine Wk.caser 179 rfl (fun q1=>?_) (fun q1=>?_)
    ·repeat first|refine go ?_|with_reducible intro _
     try refine Wk.iaSl 0 ss rfl rfl rfl rfl rfl rfl rfl t0 ge0 fun _ _ _=>?_
     refine Ev.gT ?_
     refine Wk.call rfl rfl (Spl.none _) (isBottom re0) Ev.cM rfl rfl ?_
     rintro v' Z' A' hz ⟨⟨f2,rfl,hf2⟩,rfl,rfl⟩
     refine Ev.gT ?_
     refine Wk.caser 185 rfl (fun q2=>?_) (fun q2=>?_)
     ·repeat first|refine go ?_|with_reducible intro _
      try refine Wk.iaSl 1 ss rfl rfl rfl rfl rfl rfl rfl t1 ge1 fun _ _ _=>?_
      refine Ev.gT ?_
      refine Wk.call rfl rfl (Spl.none _) (isBottom re1) Ev.cM rfl rfl ?_
      rintro v' Z' A' hz ⟨⟨f3,rfl,hf3⟩,rfl,rfl⟩
      refine Ev.gT ?_
      refine Wk.ret ⟨_,Rs.tmp rfl Rs.nil,_,Sub.none _,Bis.of (by rw [hI2,←hb0,←hb1,←hf2,←hf3];simp [q0,q1,q2]),rfl⟩
     ·refine Ev.gT ?_
      refine Wk.ret ⟨_,Rs.tmp rfl Rs.nil,_,Sub.none _,Bis.of (by rw [hI2,←hb0,←hb1,←hf2];simp [q0,q1,q2]),rfl⟩
    ·refine Ev.gT ?_
     refine Wk.ret ⟨_,Rs.tmp rfl Rs.nil,_,Sub.none _,Bis.of (by rw [hI2,←hb0,←hb1];simp [q0,q1]),rfl⟩
   ·refine Ev.gT ?_
    refine Wk.ret ⟨_,Rs.tmp rfl Rs.nil,_,Sub.none _,Bis.of (by rw [hI2,←hb0];simp [q0]),rfl⟩
  ·have hI:¬ IsE l.1 (d+1) s e:=by
    simp at k1 k2 k3 k4 k5 k6 k7
    simp only [IsE,nb,k1,k2,k3,k4,k5,k6,k7]
    simp
   refine Ev.gT ?_
   refine Wk.ret ⟨_,Rs.tmp rfl Rs.nil,_,Sub.none _,Bis.of (by simp [hI]),rfl⟩
end Go.Proofs.J
namespace Go.Proofs.J
open Go.Ev Go
theorem rIsElem:∀ (d:Nat) {s:Shp} {e:El} {dd:Nat} {Z:Zone} {v:Value} {cs ce:List Value} {ts:List Tbl},TbsR Z v ts→ts.length≤1000000→(∀ t∈ts,t.Ok)→s.levels≤d→s.Ok→s.Named ts→ShR Z s cs→e.Fit dd→ElR Z e ce →
  Cz M (.func (.func 64) #[] #[]) [v,.agg ⟨cs⟩,.agg ⟨ce⟩] Z [] (fun v' Z' A'=>Bis v' (IsE ts d s e)∧Z=Z'∧A'=[])
 | 0,s,e,dd,Z,v,cs,ce,ts,hl,hn,htk,hd,hok,hN,hs,hf,he=>by exfalso;have:=s.levels_pos;omega
 | d+1,s,e,dd,Z,v,cs,ce,ts,hl,hn,htk,hd,hok,hN,hs,hf,he=>by
  cases dd with
  | zero=>exact hf.pos.elim
  | succ dd =>
  have hl0:=hl
  have he0:=he
  obtain ⟨l1,l2,rfl⟩:=hl.form
  obtain ⟨ust,hst,hrow⟩:=hl
  obtain ⟨p1,p2,usk,rfl,hsk,hsL⟩:=hs.form
  obtain ⟨q1,q2,q3,q4,use,rfl,ek,es,eL⟩:=he.form
  have hkl:=hf.sm.1
  have hkl2:=hf.sm.2.1
  refine Cz.fn (f:=Tryz.f64) Ev.cM rfl rfl rfl _ rfl ?_
  repeat first|refine go ?_|with_reducible intro _
  rename_i b4 b5
  refine Wk.call rfl rfl (Spl.none _) (rIsBottom he) rfl rfl rfl ?_
  rintro v' Z' A' hz ⟨⟨b,rfl,hb⟩,rfl,rfl⟩
  refine Ev.gT ?_
  refine Wk.cond rfl (fun hc=>?_) (fun hc=>?_)
  ·refine Ev.gT ?_
   refine Wk.ret ⟨_,Rs.tmp rfl Rs.nil,_,Sub.none _,Bis.of (by simp only [true_iff];exact .inl (hb.1 hc)),rfl,rfl⟩
  have nb:¬ e.Bot:=fun k=>by rw [hb.2 k] at hc;cases hc
  clear hc
  refine Ev.gT ?_
  first|refine Wk.cut (fun L Z' A'=>Z=Z'∧Sub A' [pt b5 (.cells [.int .u8 e.kind,.int .i64 e.n,.slice q1 e.keys.length q2,.slice q3 e.kids.length q4] true 0),pt b4 (.cells [.int .u8 s.kind,.string s.name,.slice p1 s.kids.length p2] true 0)]∧Kp L [(0,.slice l1 ts.length l2),(4,.pointer (some ⟨b4,0,none⟩)),(5,.pointer (some ⟨b5,0,none⟩)),(7,.bool (decide e.Bare))]) ?_ ?_|refine Wk.cutr (fun L Z' A'=>Z=Z'∧Sub A' [pt b5 (.cells [.int .u8 e.kind,.int .i64 e.n,.slice q1 e.keys.length q2,.slice q3 e.kids.length q4] true 0),pt b4 (.cells [.int .u8 s.kind,.string s.name,.slice p1 s.kids.length p2] true 0)]∧Kp L [(0,.slice l1 ts.length l2),(4,.pointer (some ⟨b4,0,none⟩)),(5,.pointer (some ⟨b5,0,none⟩)),(7,.bool (decide e.Bare))]) ?_ ?_
  ·refine Wk.caser 15 rfl (fun h1=>?_) (fun h1=>?_)
   ·refine Ev.gT ?_
    refine Wk.inv ⟨rfl,Ev.sM,⟨rfl,rfl,rfl,eqBp (by simp at h1;simp [El.Bare,h1]),trivial⟩⟩
   ·refine Ev.gT ?_
    refine Wk.inv ⟨rfl,Ev.sM,⟨rfl,rfl,rfl,eqBp (by simp at h1;simp [El.Bare,h1]),trivial⟩⟩
  rintro L Z' A' - ⟨rfl,hsub,hk⟩
  refine Wk.drop hsub ?_
  refine Wk.kp hk ?_
  clear hk hsub
  refine Ev.gT ?_
  refine Wk.cond rfl (fun k1=>?_) (fun k1=>?_)
  ·replace k1:e.kind=1:=by simpa using k1
   have hI:IsE ts (d+1) s e↔s.kind=1∧e.n=0∧e.Bare:=by simp only [IsE,nb,k1];simp
   refine Ev.gT ?_
   refine Wk.caser 28 rfl (fun h1=>?_) (fun h1=>?_)
   ·refine Ev.gT ?_
    refine Wk.caser 31 rfl (fun h2=>?_) (fun h2=>?_)
    ·refine Ev.gT ?_
     refine Wk.ret ⟨_,Rs.tmp rfl Rs.nil,_,Sub.none _,Bis.of (by rw [hI];simp at h1 h2;simp [h1,h2]),rfl,rfl⟩
    ·refine Ev.gT ?_
     refine Wk.ret ⟨_,Rs.tmp rfl Rs.nil,_,Sub.none _,Bis.of (by rw [hI];simp at h2;simp [h2]),rfl,rfl⟩
   ·refine Ev.gT ?_
    refine Wk.ret ⟨_,Rs.tmp rfl Rs.nil,_,Sub.none _,Bis.of (by rw [hI];simp at h1;simp [h1]),rfl,rfl⟩
  refine Ev.gT ?_
  refine Wk.cond rfl (fun k2=>?_) (fun k2=>?_)
  ·replace k2:e.kind=2:=by simpa using k2
   have hI:IsE ts (d+1) s e↔(s.kind=2∨s.kind=4)∧NumOk e.n∧e.Bare:=by simp only [IsE,nb,k2];simp
   refine Ev.gT ?_
   refine Wk.caser 41 rfl (fun h1=>?_) (fun h1=>?_)
   ·refine Ev.gT ?_
    refine Wk.caser 49 rfl (fun h2=>?_) (fun h2=>?_)
    ·refine Ev.gT ?_
     refine Wk.call rfl rfl (Spl.none _) (rIsNumber e.n) rfl rfl rfl ?_
     rintro v' Z' A' hz ⟨⟨b,rfl,hb⟩,rfl,rfl⟩
     refine Ev.gT ?_
     refine Wk.ret ⟨_,Rs.tmp rfl Rs.nil,_,Sub.none _,Bis.of (by rw [hI,hb];simp at h1 h2;simp [h1,h2]),rfl,rfl⟩
    ·refine Ev.gT ?_
     refine Wk.ret ⟨_,Rs.tmp rfl Rs.nil,_,Sub.none _,Bis.of (by rw [hI];simp at h2;simp [h2]),rfl,rfl⟩
   ·refine Ev.gT ?_
    refine Wk.caser 46 rfl (fun h3=>?_) (fun h3=>?_)
    ·refine Ev.gT ?_
     refine Wk.caser 49 rfl (fun h2=>?_) (fun h2=>?_)
     ·refine Ev.gT ?_
      refine Wk.call rfl rfl (Spl.none _) (rIsNumber e.n) rfl rfl rfl ?_
      rintro v' Z' A' hz ⟨⟨b,rfl,hb⟩,rfl,rfl⟩
      refine Ev.gT ?_
      refine Wk.ret ⟨_,Rs.tmp rfl Rs.nil,_,Sub.none _,Bis.of (by rw [hI,hb];simp at h3 h2;simp [h3,h2]),rfl,rfl⟩
     ·refine Ev.gT ?_
      refine Wk.ret ⟨_,Rs.tmp rfl Rs.nil,_,Sub.none _,Bis.of (by rw [hI];simp at h2;simp [h2]),rfl,rfl⟩
    ·refine Ev.gT ?_
     refine Wk.ret ⟨_,Rs.tmp rfl Rs.nil,_,Sub.none _,Bis.of (by rw [hI];simp at h1 h3;simp [h1,h3]),rfl,rfl⟩
  refine Ev.gT ?_
  refine Wk.cond rfl (fun k3=>?_) (fun k3=>?_)
  ·replace k3:e.kind=3:=by simpa using k3
   have hI:IsE ts (d+1) s e↔s.kind=4∧e.n=0∧e.Bare:=by simp only [IsE,nb,k3];simp
   refine Ev.gT ?_
   refine Wk.caser 59 rfl (fun h1=>?_) (fun h1=>?_)
   ·refine Ev.gT ?_
    refine Wk.caser 62 rfl (fun h2=>?_) (fun h2=>?_)
    ·refine Ev.gT ?_
     refine Wk.ret ⟨_,Rs.tmp rfl Rs.nil,_,Sub.none _,Bis.of (by rw [hI];simp at h1 h2;simp [h1,h2]),rfl,rfl⟩
    ·refine Ev.gT ?_
     refine Wk.ret ⟨_,Rs.tmp rfl Rs.nil,_,Sub.none _,Bis.of (by rw [hI];simp at h2;simp [h2]),rfl,rfl⟩
   ·refine Ev.gT ?_
    refine Wk.ret ⟨_,Rs.tmp rfl Rs.nil,_,Sub.none _,Bis.of (by rw [hI];simp at h1;simp [h1]),rfl,rfl⟩
  refine Ev.gT ?_
  refine Wk.cond rfl (fun k4=>?_) (fun k4=>?_)
  ·replace k4:e.kind=4:=by simpa using k4
   have hI:IsE ts (d+1) s e↔s.kind=5∧(∃ t,Tof ts s.name t∧1≤e.n∧e.n < t.elems.length)∧e.Bare:=by simp only [IsE,nb,k4];simp
   refine Ev.gT ?_
   refine Wk.drawr (ms:=[0,1,3,7,15,31,63,127,255,127,127,127,2175,7295,15999,32383,65151,130687,261759,524287,1048575,2097151]) (l:=[0,1,2,3,4,5,6,7,8,9,10,11,12,13,14,15,16,17,18,19,20,21]) Ev.cM Ev.cM Ev.cM rfl ?_
   refine Ev.gT ?_
   refine Wk.caser 72 rfl (fun h1=>?_) (fun h1=>?_)
   ·replace h1:s.kind=5:=by simpa using h1
    refine Ev.gT ?_
    refine Wk.caser 75 rfl (fun h2=>?_) (fun h2=>?_)
    ·replace h2:e.Bare:=by simpa using h2
     refine Ev.gT ?_
     refine Wk.callD rfl rfl (Spl.none _) (rNumber s.name hl0 hn) rfl rfl fun v82 Z9 A' hz9 hq=>?_
     obtain ⟨⟨r,rfl,hr⟩,rfl,rfl⟩:=hq
     refine ⟨?_,?_⟩
     ·exact Ev.pM0
     rcases hr with ⟨i,hi,rfl,hnm,hfirst⟩|⟨rfl,hno⟩
     ·obtain ⟨nm,x1,m1,y1,x2,m2,y2,x3,m3,y3,g1,g2⟩:=hrow i hi
      obtain ⟨_,_,em⟩:=g2.elems.form
      cases em
      have ok:=htk _ (List.getElem_mem hi)
      have o1:=ok.2.1
      have o2:=ok.2.2.1
      repeat first|refine go ?_|with_reducible intro _
      try refine Wk.iaSl i hst rfl rfl rfl rfl rfl rfl rfl hi g1 fun _ _ _=>?_
      refine Ev.gT ?_
      rename_i bb off hp
      try refine Wk.loadP rfl rfl hp rfl rfl rfl rfl ?_
      refine Ev.gT ?_
      refine Wk.call rfl rfl (Spl.none _) ((In_ e.n 1 ((ts[i].elems.length:Int) - 1))) Ev.cM rfl rfl ?_
      rintro v' Z' A' hz ⟨⟨b,rfl,hb⟩,rfl,rfl⟩
      have hT:Tof ts s.name ts[i]:=⟨i,hi,rfl,hnm,hfirst⟩
      refine Ev.gT ?_
      refine Wk.ret ⟨_,Rs.tmp rfl Rs.nil,_,Sub.none _,Bis.of (by rw [hI,hb];exact ⟨fun h=>⟨h1,⟨_,hT,by omega,by omega⟩,h2⟩,fun ⟨_,⟨u,hu,a,b⟩,_⟩=>by rw [hu.uniq hT] at b;omega⟩),rfl,rfl⟩
     ·exfalso
      obtain ⟨t,ht,e⟩:=hN.tab h1
      exact hno t ht e
    ·refine Ev.gT ?_
     refine Wk.ret ⟨_,Rs.tmp rfl Rs.nil,_,Sub.none _,Bis.of (by rw [hI];simp at h2;simp [h2]),rfl,rfl⟩
   ·refine Ev.gT ?_
    refine Wk.ret ⟨_,Rs.tmp rfl Rs.nil,_,Sub.none _,Bis.of (by rw [hI];simp at h1;simp [h1]),rfl,rfl⟩
  refine Ev.gT ?_
  refine Wk.cond rfl (fun k5=>?_) (fun k5=>?_)
  ·replace k5:e.kind=5:=by simpa using k5
   have hI:IsE ts (d+1) s e↔s.kind=3∧e.n=0∧e.kids.length=0∧KeysOk e.keys:=by simp only [IsE,nb,k5];simp
   refine Ev.gT ?_
   refine Wk.caser 95 rfl (fun hc=>?_) (fun hc=>?_)
   ·replace hc:s.kind=3:=by simpa using hc
    refine Ev.gT ?_
    refine Wk.caser 100 rfl (fun h0=>?_) (fun h0=>?_)
    ·replace h0:e.n=0:=by simpa using h0
     refine Ev.gT ?_
     refine Wk.caser 106 rfl (fun hk=>?_) (fun hk=>?_)
     ·replace hk:e.kids.length=0:=by simpa using hk
      refine Ev.gT ?_
      refine Wk.call rfl rfl (Spl.none _) (rAreKeys ek hkl) rfl rfl rfl ?_
      rintro v' Z' A' hz ⟨⟨b,rfl,hb⟩,rfl,rfl⟩
      refine Ev.gT ?_
      refine Wk.ret ⟨_,Rs.tmp rfl Rs.nil,_,Sub.none _,Bis.of (by rw [hI,hb];exact ⟨fun h=>⟨hc,h0,hk,h⟩,fun h=>h.2.2.2⟩),rfl,rfl⟩
     ·refine Ev.gT ?_
      refine Wk.ret ⟨_,Rs.tmp rfl Rs.nil,_,Sub.none _,Bis.of (by rw [hI];simp only [Bool.false_eq_true,false_iff];rintro ⟨_,_,h,_⟩;simp [h] at hk),rfl,rfl⟩
    ·refine Ev.gT ?_
     refine Wk.ret ⟨_,Rs.tmp rfl Rs.nil,_,Sub.none _,Bis.of (by rw [hI];simp only [Bool.false_eq_true,false_iff];rintro ⟨_,h,_⟩;simp [h] at h0),rfl,rfl⟩
   ·refine Ev.gT ?_
    refine Wk.ret ⟨_,Rs.tmp rfl Rs.nil,_,Sub.none _,Bis.of (by rw [hI];simp only [Bool.false_eq_true,false_iff];rintro ⟨h,_⟩;simp [h] at hc),rfl,rfl⟩
  refine Ev.gT ?_
  refine Wk.cond rfl (fun k6=>?_) (fun k6=>?_)
  ·replace k6:e.kind=6:=by simpa using k6
   have hI:IsE ts (d+1) s e↔s.kind=6∧e.n=0∧KeysOk e.keys∧e.kids.length=e.keys.length∧∀ i (h:i < e.kids.length),¬ (e.kids[i]).Bot∧∃ h2:0 < s.kids.length,IsE ts d s.kids[0] e.kids[i]:=by simp only [IsE,nb,k6];simp
   refine Ev.gT ?_
   refine Wk.caser 116 rfl (fun hc=>?_) (fun hc=>?_)
   ·refine Ev.gT ?_
    refine Wk.ret ⟨_,Rs.tmp rfl Rs.nil,_,Sub.none _,Bis.of (by rw [hI];simp only [Bool.false_eq_true,false_iff];rintro ⟨h,_⟩;simp [h] at hc),rfl,rfl⟩
   replace hc:s.kind=6:=by simpa using hc
   have hk1:s.kids.length=1:=by have:=hok.kids_.1;rw [hc] at this;simp [kidsOf] at this;omega
   have hk0:0 < s.kids.length:=by omega
   refine Ev.gT ?_
   refine Wk.caser 121 rfl (fun h0=>?_) (fun h0=>?_)
   ·refine Ev.gT ?_
    refine Wk.ret ⟨_,Rs.tmp rfl Rs.nil,_,Sub.none _,Bis.of (by rw [hI];simp only [Bool.false_eq_true,false_iff];rintro ⟨_,h,_⟩;simp [h] at h0),rfl,rfl⟩
   replace h0:e.n=0:=by simpa using h0
   refine Ev.gT ?_
   refine Wk.call rfl rfl (Spl.none _) (rAreKeys ek hkl) rfl rfl rfl ?_
   rintro v' Z' A' hz ⟨⟨b,rfl,hb⟩,rfl,rfl⟩
   refine Ev.gT ?_
   refine Wk.caser 127 rfl (fun hK=>?_) (fun hK=>?_)
   ·refine Ev.gT ?_
    refine Wk.ret ⟨_,Rs.tmp rfl Rs.nil,_,Sub.none _,Bis.of (by rw [hI];simp only [Bool.false_eq_true,false_iff];rintro ⟨_,_,h,_⟩;rw [hb.2 h] at hK;cases hK),rfl,rfl⟩
   replace hK:=hb.1 (by simpa using hK)
   refine Ev.gT ?_
   refine Wk.cond rfl (fun hL=>?_) (fun hL=>?_)
   ·refine Ev.gT ?_
    refine Wk.ret ⟨_,Rs.tmp rfl Rs.nil,_,Sub.none _,Bis.of (by rw [hI];simp only [Bool.false_eq_true,false_iff];rintro ⟨_,_,_,h,_⟩;simp [h] at hL),rfl,rfl⟩
   replace hL:e.kids.length=e.keys.length:=by simp at hL;omega
   obtain ⟨k0,n0,a0,m0,c0,g0,r0⟩:=hsL.get 0 hk0
   refine Ev.gT ?_
   refine Wk.loop (fun mm L Z' A'=>∃ j:Nat,j≤e.kids.length∧mm=e.kids.length - j∧Z=Z'∧Sub A' [pt b5 (.cells [.int .u8 e.kind,.int .i64 e.n,.slice q1 e.keys.length q2,.slice q3 e.kids.length q4] true 0),pt b4 (.cells [.int .u8 s.kind,.string s.name,.slice p1 s.kids.length p2] true 0)]∧(∀ i,i < j→∀ h:i < e.kids.length,¬ (e.kids[i]).Bot∧∃ h2:0 < s.kids.length,IsE ts d s.kids[0] e.kids[i])∧Kp L [(0,.slice l1 ts.length l2),(4,.pointer (some ⟨b4,0,none⟩)),(5,.pointer (some ⟨b5,0,none⟩)),(8,.int .i64 j)]) e.kids.length ⟨0,Nat.zero_le _,rfl,rfl,Sub.refl _,fun x hx=>by omega,Ev.kM⟩ ?_
   rintro mm L Z' A' - ⟨j,hj,rfl,rfl,hsub,inv,hk'⟩
   refine Wk.drop hsub ?_
   refine Wk.kp hk' ?_
   clear hk' hsub
   refine Ev.gT ?_
   refine Wk.cond rfl (fun hc2=>?_) (fun hc2=>?_)
   ·have hlt:j < e.kids.length:=by simp at hc2;omega
    obtain ⟨ik,im,x1,m1,y1,x2,m2,y2,gi,qi⟩:=eL.get j hlt
    have no:¬ (¬ (e.kids[j]).Bot∧∃ h2:0 < s.kids.length,IsE ts d s.kids[0] e.kids[j])→¬ IsE ts (d+1) s e:=fun h k=>h ((hI.1 k).2.2.2.2 j hlt)
    refine Ev.gT ?_
    refine Wk.drawr (ms:=[0,1,0,7,15,31,63,127,127,383,895,1919,127,4223,127,28799,61567,131071,262143,524287]) (l:=[0,1,2,3,4,5,6,7,8,9,10,11,12,13,14,15,16,17,18,19]) Ev.cM Ev.cM Ev.cM rfl ?_
    repeat first|refine go ?_|with_reducible intro _
    refine Wk.call rfl rfl (Spl.none _) (rIsBottom qi) Ev.cM rfl rfl ?_
    rintro v' Z' A' hz ⟨⟨b2,rfl,hb2⟩,rfl,rfl⟩
    refine Ev.gT ?_
    refine Wk.caser 149 rfl (fun h1=>?_) (fun h1=>?_)
    ·refine Ev.gT ?_
     refine Wk.ret ⟨_,Rs.tmp rfl Rs.nil,_,Sub.none _,Bis.of (by simp only [Bool.false_eq_true,false_iff];exact no fun h=>h.1 (hb2.1 h1)),rfl,rfl⟩
    have nbj:¬ (e.kids[j]).Bot:=fun k=>by rw [hb2.2 k] at h1;cases h1
    repeat first|refine go ?_|with_reducible intro _
    try refine Wk.iaSl 0 hsk rfl rfl rfl rfl rfl rfl rfl hk0 g0 fun _ _ _=>?_
    refine Ev.gT ?_
    refine Wk.call rfl rfl (Spl.none _) ((rIsElem d hl0 hn htk (Shp.kid_levels hd hk0) (hok.kids_.2 _ (List.getElem_mem hk0)) (hN.kids_ _ (List.getElem_mem hk0)) r0 (hf.kid hlt) qi)) Ev.cM rfl rfl ?_
    rintro v' Z' A' hz ⟨⟨b3,rfl,hb3⟩,rfl,rfl⟩
    refine Ev.gT ?_
    refine Wk.cond rfl (fun h2=>?_) (fun h2=>?_)
    ·refine Ev.gT ?_
     refine Wk.ret ⟨_,Rs.tmp rfl Rs.nil,_,Sub.none _,Bis.of (by simp only [Bool.false_eq_true,false_iff];exact no fun ⟨_,_,h⟩=>by rw [hb3.2 h] at h2;cases h2),rfl,rfl⟩
    ·refine Ev.gT ?_
     exact Wk.inv ⟨_,by omega,j+1,hlt,rfl,rfl,Sub.refl _,nextQ inv (fun _=>⟨nbj,hk0,hb3.1 (by simpa using h2)⟩),Ev.kM⟩
   ·have hall:∀ i (h:i < e.kids.length),¬ (e.kids[i]).Bot∧∃ h2:0 < s.kids.length,IsE ts d s.kids[0] e.kids[i]:=fun i hi=>inv i (by simp at hc2;omega) hi
    refine Ev.gT ?_
    refine Wk.ret ⟨_,Rs.tmp rfl Rs.nil,_,Sub.none _,Bis.of (by rw [hI];simp only [true_iff];exact ⟨hc,h0,hK,hL,hall⟩),rfl,rfl⟩
  refine Ev.gT ?_
  refine Wk.cond rfl (fun k7=>?_) (fun k7=>?_)
  ·replace k7:e.kind=7:=by simpa using k7
   have hI:IsE ts (d+1) s e↔s.kind=7∧e.n=0∧e.keys.length=0∧e.kids.length=2∧∃ (h:1 < e.kids.length) (h2:1 < s.kids.length),IsE ts d s.kids[0] e.kids[0]∧IsE ts d s.kids[1] e.kids[1]∧¬ ((e.kids[0]).Bot∧(e.kids[1]).Bot):=by simp only [IsE,nb,k7];simp
   refine Ev.gT ?_
   refine Wk.caser 168 rfl (fun hc=>?_) (fun hc=>?_)
   ·refine Ev.gT ?_
    refine Wk.ret ⟨_,Rs.tmp rfl Rs.nil,_,Sub.none _,Bis.of (by rw [hI];simp only [Bool.false_eq_true,false_iff];rintro ⟨h,_⟩;simp [h] at hc),rfl,rfl⟩
   replace hc:s.kind=7:=by simpa using hc
   have hk2:s.kids.length=2:=by have:=hok.kids_.1;rw [hc] at this;simp [kidsOf] at this;omega
   refine Ev.gT ?_
   refine Wk.caser 173 rfl (fun h0=>?_) (fun h0=>?_)
   ·refine Ev.gT ?_
    refine Wk.ret ⟨_,Rs.tmp rfl Rs.nil,_,Sub.none _,Bis.of (by rw [hI];simp only [Bool.false_eq_true,false_iff];rintro ⟨_,h,_⟩;simp [h] at h0),rfl,rfl⟩
   replace h0:e.n=0:=by simpa using h0
   refine Ev.gT ?_
   refine Wk.caser 179 rfl (fun hk=>?_) (fun hk=>?_)
   ·refine Ev.gT ?_
    refine Wk.ret ⟨_,Rs.tmp rfl Rs.nil,_,Sub.none _,Bis.of (by rw [hI];simp only [Bool.false_eq_true,false_iff];rintro ⟨_,_,h,_⟩;simp [h] at hk),rfl,rfl⟩
   replace hk:e.keys.length=0:=by simp at hk;simp [hk]
   refine Ev.gT ?_
   refine Wk.caser 185 rfl (fun hL=>?_) (fun hL=>?_)
   ·refine Ev.gT ?_
    refine Wk.ret ⟨_,Rs.tmp rfl Rs.nil,_,Sub.none _,Bis.of (by rw [hI];simp only [Bool.false_eq_true,false_iff];rintro ⟨_,_,_,h,_⟩;simp [h] at hL),rfl,rfl⟩
   replace hL:e.kids.length=2:=by simp at hL;omega
   have s0:0 < s.kids.length:=by omega
   have s1:1 < s.kids.length:=by omega
   have t0:0 < e.kids.length:=by omega
   have t1:1 < e.kids.length:=by omega
   have hI2:IsE ts (d+1) s e↔IsE ts d s.kids[0] e.kids[0]∧IsE ts d s.kids[1] e.kids[1]∧¬ ((e.kids[0]).Bot∧(e.kids[1]).Bot):=by
    rw [hI];exact ⟨fun ⟨_,_,_,_,_,_,h⟩=>h,fun h=>⟨hc,h0,hk,hL,t1,s1,h⟩⟩
   obtain ⟨j0,n0,a0,m0,c0,g0,r0⟩:=hsL.get 0 s0
   obtain ⟨j1,n1,a1,m1,c1,g1,r1⟩:=hsL.get 1 s1
   obtain ⟨i0,o0,x0,y0,z0,u0,w0,f0,ge0,re0⟩:=eL.get 0 t0
   obtain ⟨i1,o1,x1,y1,z1,u1,w1,f1,ge1,re1⟩:=eL.get 1 t1
   have C0:=rIsElem d hl0 hn htk (Shp.kid_levels hd s0) (hok.kids_.2 _ (List.getElem_mem s0)) (hN.kids_ _ (List.getElem_mem s0)) r0 (hf.kid t0) re0
   have C1:=rIsElem d hl0 hn htk (Shp.kid_levels hd s1) (hok.kids_.2 _ (List.getElem_mem s1)) (hN.kids_ _ (List.getElem_mem s1)) r1 (hf.kid t1) re1
   repeat first|refine go ?_|with_reducible intro _
   try refine Wk.iaSl 0 es rfl rfl rfl rfl rfl rfl rfl t0 ge0 fun _ _ _=>?_
   refine Ev.gT ?_
   refine Wk.call rfl rfl (Spl.none _) (rIsBottom re0) rfl rfl rfl ?_
   rintro v' Z' A' hz ⟨⟨f2,rfl,hf2⟩,rfl,rfl⟩
   refine Ev.gT ?_
   refine Wk.caser 191 rfl (fun h5=>?_) (fun h5=>?_)
   ·replace h5:=hf2.1 h5
    repeat first|refine go ?_|with_reducible intro _
    try refine Wk.iaSl 1 es rfl rfl rfl rfl rfl rfl rfl t1 ge1 fun _ _ _=>?_
    refine Ev.gT ?_
    refine Wk.call rfl rfl (Spl.none _) (rIsBottom re1) rfl rfl rfl ?_
    rintro v' Z' A' hz ⟨⟨f3,rfl,hf3⟩,rfl,rfl⟩
    refine Ev.gT ?_
    refine Wk.cond rfl (fun h6=>?_) (fun h6=>?_)
    ·refine Ev.gT ?_
     refine Wk.ret ⟨_,Rs.tmp rfl Rs.nil,_,Sub.none _,Bis.of (by rw [hI2];simp only [Bool.false_eq_true,false_iff];exact fun h=>h.2.2 ⟨h5,hf3.1 h6⟩),rfl,rfl⟩
    have hnb:¬ ((e.kids[0]).Bot∧(e.kids[1]).Bot):=fun h=>by rw [hf3.2 h.2] at h6;cases h6
    refine Ev.gT ?_
    refine Wk.drawr (ms:=[0,0,2,6,14,0,32,96,224,511,1023,2047,2047,6143,14335,30719,2047,67583,198655,460799,1048575,2097151,4194303]) (l:=[0,1,2,3,4,5,6,7,8,9,10,11,12,13,14,15,16,17,18,19,20,21,22]) Ev.cM Ev.cM Ev.cM rfl ?_
    repeat first|refine go ?_|with_reducible intro _
    try refine Wk.iaSl 0 hsk rfl rfl rfl rfl rfl rfl rfl s0 g0 fun _ _ _=>?_
    refine Ev.gT ?_
    try refine Wk.iaSl 0 es rfl rfl rfl rfl rfl rfl rfl t0 ge0 fun _ _ _=>?_
    refine Ev.gT ?_
    refine Wk.call rfl rfl (Spl.none _) (C0) Ev.cM rfl rfl ?_
    rintro v' Z' A' hz ⟨⟨b0,rfl,hb0⟩,rfl,rfl⟩
    refine Ev.gT ?_
    refine Wk.caser 209 rfl (fun q0=>?_) (fun q0=>?_)
    ·repeat first|refine go ?_|with_reducible intro _
     try refine Wk.iaSl 1 hsk rfl rfl rfl rfl rfl rfl rfl s1 g1 fun _ _ _=>?_
     refine Ev.gT ?_
     try refine Wk.iaSl 1 es rfl rfl rfl rfl rfl rfl rfl t1 ge1 fun _ _ _=>?_
     refine Ev.gT ?_
     refine Wk.call rfl rfl (Spl.none _) (C1) Ev.cM rfl rfl ?_
     rintro v' Z' A' hz ⟨⟨b1,rfl,hb1⟩,rfl,rfl⟩
     refine Ev.gT ?_
     refine Wk.ret ⟨_,Rs.tmp rfl Rs.nil,_,Sub.none _,Bis.of (by rw [hI2,←hb0,←hb1];simp [q0,hnb]),rfl,rfl⟩
    ·refine Ev.gT ?_
     refine Wk.ret ⟨_,Rs.tmp rfl Rs.nil,_,Sub.none _,Bis.of (by rw [hI2,←hb0];simp [q0]),rfl,rfl⟩
   ·have hnb:¬ ((e.kids[0]).Bot∧(e.kids[1]).Bot):=fun h=>by rw [hf2.2 h.1] at h5;cases h5
    refine Ev.gT ?_
    refine Wk.drawr (ms:=[0,0,2,6,14,0,32,96,224,511,1023,2047,2047,6143,14335,30719,2047,67583,198655,460799,1048575,2097151,4194303]) (l:=[0,1,2,3,4,5,6,7,8,9,10,11,12,13,14,15,16,17,18,19,20,21,22]) Ev.cM Ev.cM Ev.cM rfl ?_
    repeat first|refine go ?_|with_reducible intro _
    try refine Wk.iaSl 0 hsk rfl rfl rfl rfl rfl rfl rfl s0 g0 fun _ _ _=>?_
    refine Ev.gT ?_
    try refine Wk.iaSl 0 es rfl rfl rfl rfl rfl rfl rfl t0 ge0 fun _ _ _=>?_
    refine Ev.gT ?_
    refine Wk.call rfl rfl (Spl.none _) (C0) Ev.cM rfl rfl ?_
    rintro v' Z' A' hz ⟨⟨b0,rfl,hb0⟩,rfl,rfl⟩
    refine Ev.gT ?_
    refine Wk.caser 209 rfl (fun q0=>?_) (fun q0=>?_)
    ·repeat first|refine go ?_|with_reducible intro _
     try refine Wk.iaSl 1 hsk rfl rfl rfl rfl rfl rfl rfl s1 g1 fun _ _ _=>?_
     refine Ev.gT ?_
     try refine Wk.iaSl 1 es rfl rfl rfl rfl rfl rfl rfl t1 ge1 fun _ _ _=>?_
     refine Ev.gT ?_
     refine Wk.call rfl rfl (Spl.none _) (C1) Ev.cM rfl rfl ?_
     rintro v' Z' A' hz ⟨⟨b1,rfl,hb1⟩,rfl,rfl⟩
     refine Ev.gT ?_
     refine Wk.ret ⟨_,Rs.tmp rfl Rs.nil,_,Sub.none _,Bis.of (by rw [hI2,←hb0,←hb1];simp [q0,hnb]),rfl,rfl⟩
    ·refine Ev.gT ?_
     refine Wk.ret ⟨_,Rs.tmp rfl Rs.nil,_,Sub.none _,Bis.of (by rw [hI2,←hb0];simp [q0]),rfl,rfl⟩
  ·have hI:¬ IsE ts (d+1) s e:=by
    simp at k1 k2 k3 k4 k5 k6 k7
    simp only [IsE,nb,k1,k2,k3,k4,k5,k6,k7]
    simp
   refine Ev.gT ?_
   refine Wk.ret ⟨_,Rs.tmp rfl Rs.nil,_,Sub.none _,Bis.of (by simp [hI]),rfl,rfl⟩
end Go.Proofs.J
namespace Go.Proofs.J
open Go.Ev Go
theorem CSE_zero {ts:List Tbl} {s:Shp} (h:CSE ts s=0):s.levels≤4∧(∀ t∈ts,t.Ok)∧s.Ok∧s.Named ts:=by
 unfold CSE at h
 split at h
 ·cases h
 ·rename_i o1
  split at h
  ·cases h
  ·rename_i o2
   split at h
   ·cases h
   ·split at h
    ·cases h
    ·split at h
     ·cases h
     ·rename_i o5
      have o2:=Classical.not_not.1 o2
      exact ⟨by omega,o2.1,o2.2,Classical.not_not.1 o5⟩
theorem openIs {Z:Zone} {b6 b2:Nat} {w1 w2 w3 w4 x1:Value} {k:Int} {nn:ByteArray} {ap:Option Addr} {mm ac:Nat} {ce:List Value} {e:El} {P:Prop} (hb6:Z b6=some (.cells [w1,w2,w3,w4] true 0)) (hb2:Z b2=some (.cells [x1,.int .u8 k,.string nn,.slice ap mm ac] true 0)) (he:ElR Z e ce)
  (hcz:Cz M (.func (.func 86) #[] #[]) [.agg ⟨[w1,w2,w3,w4]⟩,.agg ⟨[.int .u8 k,.string nn,.slice ap mm ac]⟩,.agg ⟨ce⟩] Z [] (fun v' Z' A'=>Bis v' P∧Z=Z'∧A'=[])) :
  Cz M (.func (.func 85) #[] ⟨[.pointer (some ⟨b6,0,none⟩),.pointer (some ⟨b2,0,none⟩)]⟩) [.agg ⟨ce⟩] Z [] (fun v' Z' A'=>Bis v' (¬ P)∧Z=Z'∧A'=[]):=by
 obtain ⟨q1,q2,q3,q4,use,rfl,ek,es,eL⟩:=he.form
 refine Cz.fn (f:=Tryz.f85) Ev.cM rfl rfl rfl _ rfl ?_
 repeat first|refine go ?_|with_reducible intro _
 refine Wk.call rfl rfl (Spl.none _) (hcz) rfl rfl rfl ?_
 rintro v' Z' A' hz ⟨⟨b2,rfl,hb2⟩,rfl,rfl⟩
 refine Ev.gT ?_
 refine Wk.ret ⟨_,Rs.tmp rfl Rs.nil,_,Sub.none _,Bis.of (by rw [←hb2];cases b2<;>simp),rfl,rfl⟩
open Classical in
noncomputable def ElsE (l:Lat) (els:List El):Int:=if CSE l.1 l.2≠0 then CSE l.1 l.2 else if ∀ i (h:i < els.length),IsE l.1 4 l.2 els[i] then 0 else 2
theorem open_E {Z:Zone} {cl:List Value} {ve:Value} {l:Lat} {els:List El} {dd:Nat} (hl:LatR Z cl l) (ht:l.Th) (he:ElsR Z ve els) (hn:els.length≤2199023255552) (hf:∀ i (h:i < els.length),(els[i]).Fit dd) :
  Cz M (.func (.func 58) #[] #[]) [.agg ⟨cl⟩,ve] Z [] (fun v' Z' A'=>(∃ cs,v'=.tuple ⟨[.agg ⟨cs⟩,.int .i64 (ElsE l els)]⟩∧cs.length=4∧LatR Z cs l)∧Z=Z'∧A'=[]):=by
 classical
 refine Cz.shrink ?_
 have hl0:=hl
 obtain ⟨l1,l2,l3,l4,rfl,hT,hS⟩:=hl.form
 obtain ⟨ae,ce,rfl⟩:=he.form
 obtain ⟨us,hs,hL⟩:=he
 obtain ⟨q1,q2,q3,q4⟩:=ht.chk
 refine Cz.fn (f:=Tryz.f58) Ev.cM rfl rfl rfl _ rfl ?_
 repeat first|refine go ?_|with_reducible intro _
 rename_i b2 b4 b6
 refine Wk.call rfl rfl (Spl.none _) (CheckShapeI hT q1 q2 hS q3 Ev.wM q4) rfl rfl rfl ?_
 rintro v' Z' A' hz ⟨rfl,rfl,rfl⟩
 refine Ev.gT ?_
 refine Wk.cond rfl (fun hc=>?_) (fun hc=>?_)
 ·refine Ev.gT ?_
  have e1:ElsE l els=CSE l.1 l.2:=by unfold ElsE;rw [if_pos (by simpa using hc)]
  refine Wk.ret ⟨_,Rs.cell rfl rfl Ev.hM rfl rfl (Rs.tmp rfl Rs.nil),_,Sub.none _,⟨_,by rw [e1];rfl,rfl,hl0⟩,rfl⟩
 have h0:CSE l.1 l.2=0:=by simpa using hc
 obtain ⟨z1,z2,z3,z4⟩:=CSE_zero h0
 apply Wk.freeze (b:=b2)
 case p=>repeat (first|exact Rem.head|apply Rem.tail)
 intro Z1 e1 hb2
 apply Wk.freeze (b:=b6)
 case p=>repeat (first|exact Rem.head|apply Rem.tail)
 intro Z2 e2 hb6
 replace hb2:=e2 _ _ hb2
 have e12:=e1.trans e2
 refine Ev.gT ?_
 refine Wk.call rfl rfl (Spl.none _) (containsEls (fun i=>∃ h:i < els.length,¬ IsE l.1 4 l.2 els[i]) (hs.mono e12) hn (fun i hi=>by
  obtain ⟨k,m,x1,m1,y1,x2,m2,y2,gi,qi⟩:=hL.get i hi
  refine ⟨k,m,x1,m1,y1,x2,m2,y2,gi,?_⟩
  refine (openIs hb6 hb2 (qi.mono e12) (isElem_ 4 (hl0.mono e12) q1 z1 z3 z4 (hS.mono e12) (hf i hi) (qi.mono e12))).mono fun v' Z' A' _ q=>⟨q.1.imp ⟨fun h=>⟨hi,h⟩,fun ⟨_,h⟩=>h⟩,q.2⟩)) rfl rfl rfl ?_
 rintro v' Z' A' hz ⟨⟨b,rfl,hb⟩,rfl,rfl⟩
 refine Ev.gT ?_
 refine Wk.cond rfl (fun h1=>?_) (fun h1=>?_)
 ·refine Ev.gT ?_
  have ee:ElsE l els=2:=by
   obtain ⟨i,hi,_,h⟩:=hb.1 h1
   unfold ElsE;rw [if_neg (by rw [h0];simp),if_neg (fun k=>h (k i hi))]
  refine Wk.ret ⟨_,Rs.cell rfl rfl Ev.hM rfl rfl (Rs.tmp rfl Rs.nil),_,Sub.none _,⟨_,by rw [ee];rfl,rfl,hl0⟩,rfl⟩
 ·refine Ev.gT ?_
  have ee:ElsE l els=0:=by
   unfold ElsE;rw [if_neg (by rw [h0];simp),if_pos (fun i hi=>Classical.byContradiction fun k=>by rw [hb.2 ⟨i,hi,hi,k⟩] at h1;cases h1)]
  refine Wk.ret ⟨_,Rs.cell rfl rfl Ev.hM rfl rfl (Rs.tmp rfl Rs.nil),_,Sub.none _,⟨_,by rw [ee];rfl,rfl,hl0⟩,rfl⟩
end Go.Proofs.J
namespace Go.Proofs.J
open Go.Ev Go
end Go.Proofs.J
namespace Go.Proofs.J
open Go.Ev Go
theorem rCheckEls {Z:Zone} {cl:List Value} {ve:Value} {l:Lat} {els:List El} {dd:Nat} (hl:LatR Z cl l) (ht:l.Th) (he:ElsR Z ve els) (hn:els.length≤2199023255552) (hf:∀ i (h:i < els.length),(els[i]).Fit dd) :
  Cz M (.func (.func 22) #[] #[]) [.agg ⟨cl⟩,ve] Z [] (fun v' Z' A'=>v'=.int .i64 (ElsE l els)∧Z=Z'∧A'=[]):=by
 classical
 obtain ⟨l1,l2,l3,l4,rfl,hT,hS⟩:=hl.form
 obtain ⟨ae,ce,rfl⟩:=he.form
 obtain ⟨us,hs,hL⟩:=he
 obtain ⟨q1,q2,q3,q4⟩:=ht.chk
 refine Cz.fn (f:=Tryz.f22) Ev.cM rfl rfl rfl _ rfl ?_
 repeat first|refine go ?_|with_reducible intro _
 rename_i b2
 refine Wk.call rfl rfl (Spl.none _) (rCheckShape hT q1 q2 hS q3 Ev.wM q4) rfl rfl rfl ?_
 rintro v' Z' A' hz ⟨rfl,rfl,rfl⟩
 refine Ev.gT ?_
 refine Wk.cond rfl (fun hc=>?_) (fun hc=>?_)
 ·have e1:ElsE l els=CSE l.1 l.2:=by unfold ElsE;rw [if_pos (by simpa using hc)]
  refine Ev.gT ?_
  refine Wk.ret ⟨_,Rs.tmp rfl Rs.nil,_,Sub.none _,by rw [e1];rfl,rfl,rfl⟩
 have h0:CSE l.1 l.2=0:=by simpa using hc
 clear hc
 obtain ⟨z1,z2,z3,z4⟩:=CSE_zero h0
 refine Ev.gT ?_
 refine Wk.loop (fun mm L Z' A'=>∃ j:Nat,j≤els.length∧mm=els.length - j∧Z=Z'∧Sub A' [pt b2 (.cells [.slice l1 l.1.length l2,.int .u8 l.2.kind,.string l.2.name,.slice l3 l.2.kids.length l4] true 0)]∧(∀ i,i < j→∀ h:i < els.length,IsE l.1 4 l.2 els[i])∧Kp L [(1,.slice ae els.length ce),(2,.pointer (some ⟨b2,0,none⟩)),(6,.int .i64 j)]) els.length ⟨0,Nat.zero_le _,rfl,rfl,Sub.refl _,fun x hx=>by omega,Ev.kM⟩ ?_
 rintro mm L Z' A' - ⟨j,hj,rfl,rfl,hsub,inv,hk'⟩
 refine Wk.drop hsub ?_
 refine Wk.kp hk' ?_
 clear hk' hsub
 refine Ev.gT ?_
 refine Wk.cond rfl (fun hc=>?_) (fun hc=>?_)
 ·have hlt:j < els.length:=by simp at hc;omega
  obtain ⟨k,m,x1,m1,y1,x2,m2,y2,gi,qi⟩:=hL.get j hlt
  refine Ev.gT ?_
  refine Wk.drawr (ms:=[0,1,0,4,0,0,48,112,255,511]) (l:=[0,1,2,3,4,5,6,7,8,9]) Ev.cM Ev.cM Ev.cM rfl ?_
  repeat first|refine go ?_|with_reducible intro _
  refine Wk.call rfl rfl (Spl.none _) (rIsElem 4 hT q1 z2 z1 z3 z4 hS (hf j hlt) qi) Ev.cM rfl rfl ?_
  rintro v' Z' A' hz ⟨⟨b,rfl,hb⟩,rfl,rfl⟩
  refine Ev.gT ?_
  refine Wk.cond rfl (fun h1=>?_) (fun h1=>?_)
  ·have e1:ElsE l els=2:=by unfold ElsE;rw [if_neg (by rw [h0];simp),if_neg (fun k=>by rw [hb.2 (k j hlt)] at h1;cases h1)]
   refine Ev.gT ?_
   refine Wk.ret ⟨_,Rs.tmp rfl Rs.nil,_,Sub.none _,by rw [e1];rfl,rfl,rfl⟩
  ·refine Ev.gT ?_
   exact Wk.inv ⟨_,by omega,j+1,hlt,rfl,rfl,Sub.refl _,nextQ inv (fun _=>hb.1 (by simpa using h1)),Ev.kM⟩
 ·have e1:ElsE l els=0:=by unfold ElsE;rw [if_neg (by rw [h0];simp),if_pos (fun i hi=>inv i (by simp at hc;omega) hi)]
  refine Ev.gT ?_
  refine Wk.ret ⟨_,Rs.tmp rfl Rs.nil,_,Sub.none _,by rw [e1];rfl,rfl,rfl⟩
end Go.Proofs.J
namespace Go.Proofs.J
open Go.Ev Go
end Go.Proofs.J
