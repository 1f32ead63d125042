/- HK -/
import Derived.Test.YtlmmgebealakkaaGreatDoorHA
import Derived.Test.YtlmmgebealakkaaGreatDoorPL
import Derived.Test.YtlmmgebealakkaaGreatDoorEA
import Derived.Test.YtlmmgebealakkaaGreatDoorEvF
set_option linter.unusedVariables false
set_option maxHeartbeats 4000000
set_option maxRecDepth 100000
set_option linter.unusedSimpArgs false
namespace Go.Proofs.J
open Go.Ev Go
end Go.Proofs.J
namespace Go.Proofs.J
open Go.Ev Go
theorem isGreat_:∀ (d:Nat) {Z:Zone} {cs:List Value} {e:El},ElR Z e cs→e.Fit d →
  Cz M (.func (.func 104) #[] #[]) [.agg ⟨cs⟩] Z [] (fun v' Z' A'=>Bis v' e.Great∧Z=Z'∧A'=[])
 | 0,Z,cs,e,h,f=>f.pos.elim
 | d+1,Z,cs,e,h,f=>by
  obtain ⟨q1,q2,q3,q4,us,rfl,ek,es,eL⟩:=h.form
  have t1:=f.sm
  refine Cz.fn (f:=Tryz.f104) Ev.cM rfl rfl rfl _ rfl ?_
  repeat first|refine go ?_|with_reducible intro _
  refine Wk.caser 7 rfl (fun hc=>?_) (fun hc=>?_)
  ·have h:40 < e.keys.length:=by simp at hc;omega
   repeat first|refine go ?_|with_reducible intro _
   refine Wk.ret ⟨_,Rs.tmp rfl Rs.nil,_,Sub.none _,Bis.of (by rw [El.Great_iff];simp [h]),rfl,rfl⟩
  ·have h:¬ 40 < e.keys.length:=by simp at hc;omega
   repeat first|refine go ?_|with_reducible intro _
   refine Wk.call rfl rfl (Spl.none _) (containsEls (fun i=>∃ h:i < e.kids.length,e.kids[i].Great) es t1.2.1 (fun i hi=>by
    obtain ⟨k',n',x1,m1,y1,x2,m2,y2,gx,rr⟩:=eL.get i hi
    exact ⟨k',n',x1,m1,y1,x2,m2,y2,gx,(isGreat_ d rr (f.kid hi)).mono fun v' Z' A' _ q=>⟨q.1.imp ⟨fun h=>⟨hi,h⟩,fun ⟨_,h⟩=>h⟩,q.2⟩⟩)) rfl rfl rfl ?_
   rintro v' Z' A' hz ⟨hb,rfl,rfl⟩
   obtain ⟨b,rfl,hb⟩:=hb
   repeat first|refine go ?_|with_reducible intro _
   refine Wk.ret ⟨_,Rs.tmp rfl Rs.nil,_,Sub.none _,Bis.of (by rw [hb,El.Great_iff];simp only [h,false_or];exact ⟨fun ⟨i,hi,_,g⟩=>⟨_,List.getElem_mem hi,g⟩,fun ⟨x,hx,g⟩=>let ⟨i,hi,e⟩:=List.getElem_of_mem hx;⟨i,hi,hi,e▸g⟩⟩),rfl,rfl⟩
end Go.Proofs.J
namespace Go.Proofs.J
open Go.Ev Go
theorem CSE_ok {l:Lat} (ht:l.Th) (h:CSE l.1 l.2=0):TsOk l.1∧l.2.Ok:=by
 obtain ⟨z1,z2,z3,z4⟩:=CSE_zero h
 refine ⟨⟨?_,z2,ht.chk.2.1,ht.chk.1⟩,z3⟩
 intro t htm
 unfold CSE at h
 split at h
 ·cases h
 split at h
 ·cases h
 split at h
 ·cases h
 split at h
 ·cases h
 ·rename_i o;exact Classical.not_not.1 o t htm
theorem ElsE_zero {l:Lat} {els:List El} (h:ElsE l els=0):CSE l.1 l.2=0∧∀ e∈els,IsW l.1 4 l.2 e∧¬ e.Great:=by
 unfold ElsE at h
 split at h
 ·rename_i h1;exact absurd h h1
 ·rename_i h1
  split at h
  ·rename_i h2
   refine ⟨Classical.not_not.1 h1,fun e he=>?_⟩
   obtain ⟨i,hi,rfl⟩:=List.getElem_of_mem he
   exact IsE_iff.1 (h2 i hi)
  ·cases h
theorem ElsE_great {l:Lat} {e:El} (h:CSE l.1 l.2=0) (w:IsW l.1 4 l.2 e):ElsE l [e]=0↔¬ e.Great:=by
 constructor
 ·intro q;exact ((ElsE_zero q).2 e (by simp)).2
 ·intro q
  unfold ElsE
  rw [if_neg (by rw [h];simp),if_pos]
  intro i hi
  have:i=0:=by simpa using hi
  subst this
  exact IsE_iff.2 ⟨w,q⟩
theorem limited_ {d:Nat} {Z:Zone} {cs:List Value} {e:El} (h:ElR Z e cs) (f:e.Fit d) :
  Cz M (.func (.func 70) #[] #[]) [.agg ⟨cs⟩] Z [] (fun v' Z' A'=>(e.Great∧v'=.tuple ⟨[.agg ⟨[.int .u8 0,.int .i64 0,.slice none 0 0,.slice none 0 0]⟩,.int .i64 5]⟩∨¬ e.Great∧v'=.tuple ⟨[.agg ⟨cs⟩,.int .i64 0]⟩)∧Z=Z'∧A'=[]):=by
 have h0:=h
 obtain ⟨q1,q2,q3,q4,us,rfl,ek,es,eL⟩:=h.form
 refine Cz.fn (f:=Tryz.f70) Ev.cM rfl rfl rfl _ rfl ?_
 repeat first|refine go ?_|with_reducible intro _
 refine Wk.call rfl rfl (Spl.none _) (isGreat_ d h0 f) rfl rfl rfl ?_
 rintro v' Z' A' hz ⟨⟨b,rfl,hb⟩,rfl,rfl⟩
 repeat first|refine go ?_|with_reducible intro _
 refine Wk.cond rfl (fun hc=>?_) (fun hc=>?_)
 ·repeat first|refine go ?_|with_reducible intro _
  refine Wk.ret ⟨_,Rs.cell rfl rfl Ev.hM rfl rfl (Rs.tmp rfl Rs.nil),_,Sub.none _,.inl ⟨hb.1 hc,rfl⟩,rfl,rfl⟩
 ·repeat first|refine go ?_|with_reducible intro _
  refine Wk.ret ⟨_,Rs.cell rfl rfl Ev.hM rfl rfl (Rs.tmp rfl Rs.nil),_,Sub.none _,.inr ⟨(fun k=>by rw [hb.2 k] at hc;cases hc),rfl⟩,rfl,rfl⟩
open Classical in
noncomputable def joinR (l:Lat) (a b:El):Int×El:=if ElsE l [a,b]≠0 then (ElsE l [a,b],El.bot) else if (joinE l.1 4 l.2 a b).Great then (5,El.bot) else (0,joinE l.1 4 l.2 a b)
theorem ElsR_two {Z:Zone} {b:Nat} {a e:El} {ca ce:List Value} (ha:ElR Z a ca) (he:ElR Z e ce) (hb:Z b=some (.cells (ca++ce) true 0)):ElsR Z (.slice (some ⟨b,0,none⟩) 2 2) [a,e]:=by
 have hL:=ElRL.snoc he (ElRL.snoc ha (l:=[]) (us:=[]) (by simp [ElRL]))
 have hl:=hL.length
 refine ⟨_,.inr ⟨b,0,2,_,_,_,rfl,Nat.le_refl _,hb,?_,.inl rfl⟩,hL⟩
 unfold getCells
 simp only [List.nil_append,List.length_append,List.length_cons,List.length_nil] at hl
 rw [if_pos (by simp;omega)]
 rw [List.drop_zero,List.take_of_length_le (by simp;omega)]
 simp
theorem Fit2 {a b:El} {d:Nat} (fa:a.Fit d) (fb:b.Fit d):∀ i (h:i < [a,b].length),([a,b][i]).Fit d:=by
 intro i h
 rcases (by simp at h;omega:i=0∨i=1) with rfl|rfl
 ·exact fa
 ·exact fb
end Go.Proofs.J
namespace Go.Proofs.J
open Go.Ev Go
theorem rElemJoin {Z:Zone} {cl ca cb:List Value} {l:Lat} {a b:El} {dd:Nat} (hl:LatR Z cl l) (ht:l.Th) (ha:ElR Z a ca) (hb:ElR Z b cb) (fa:a.Fit dd) (fb:b.Fit dd) :
  Cz M (.func (.func 31) #[] #[]) [.agg ⟨cl⟩,.agg ⟨ca⟩,.agg ⟨cb⟩] Z [] (fun v' Z' A'=>∃ cs,v'=.tuple ⟨[.agg ⟨cs⟩,.int .i64 (joinR l a b).1]⟩∧ElR Z' (joinR l a b).2 cs∧A'=[]):=by
 have hl0:=hl
 have ha0:=ha
 have hb0:=hb
 obtain ⟨l1,l2,l3,l4,rfl,hT,hS⟩:=hl.form
 obtain ⟨q1,q2,q3,q4,ua,rfl,ak,as_,aL⟩:=ha.form
 obtain ⟨r1,r2,r3,r4,ub,rfl,bk,bs_,bL⟩:=hb.form
 refine Cz.fn (f:=Tryz.f31) Ev.cM rfl rfl rfl _ rfl ?_
 repeat first|refine go ?_|with_reducible intro _
 refine Wk.bs (cs:=[.int .u8 a.kind,.int .i64 a.n,.slice q1 a.keys.length q2,.slice q3 a.kids.length q4,.int .u8 b.kind,.int .i64 b.n,.slice r1 b.keys.length r2,.slice r3 b.kids.length r4]) rfl rfl rfl rfl rfl rfl rfl fun b9=>?_
 first|refine Wk.freezer Rem.head fun Z1 e1 h9=>?_|refine Wk.freeze Rem.head fun Z1 e1 h9=>?_
 repeat first|refine go ?_|with_reducible intro _
 refine Wk.call rfl rfl (Spl.none _) (rCheckEls (hl0.mono e1) ht (ElsR_two (ha0.mono e1) (hb0.mono e1) h9) (by simp) (Fit2 fa fb)) rfl rfl rfl ?_
 rintro v' Z' A' hz ⟨rfl,rfl,rfl⟩
 repeat first|refine go ?_|with_reducible intro _
 refine Wk.cond rfl (fun hc=>?_) (fun hc=>?_)
 ·have hne:ElsE l [a,b]≠0:=by simpa using hc
  have hj:joinR l a b=(ElsE l [a,b],El.bot):=by unfold joinR;rw [if_pos hne]
  rw [hj]
  repeat first|refine go ?_|with_reducible intro _
  refine Wk.ret ⟨_,Rs.cell rfl rfl Ev.hM rfl rfl (Rs.tmp rfl Rs.nil),_,Sub.none _,_,rfl,ElR_bot _,rfl⟩
 ·have h0:ElsE l [a,b]=0:=by simpa using hc
  obtain ⟨hC,hw⟩:=ElsE_zero h0
  obtain ⟨T,sok⟩:=CSE_ok ht hC
  obtain ⟨wa,ga⟩:=hw a (by simp)
  obtain ⟨wb,gb⟩:=hw b (by simp)
  have wj:=(joinE_W T.lat wa wb).1
  have fj:=joinE_fit T wa wb ga gb
  repeat first|refine go ?_|with_reducible intro _
  refine Wk.call rfl rfl (Spl.none _) (rJoinOf T 4 (hT.mono e1) (hS.mono e1) (ha0.mono e1) (hb0.mono e1) wa wb ga gb sok) rfl rfl rfl ?_
  rintro v' Z2 A' hz2 ⟨cs,rfl,hR,rfl⟩
  have hR0:=hR
  obtain ⟨w1,w2,w3,w4,uw,rfl,_,_,_⟩:=hR.form
  repeat first|refine go ?_|with_reducible intro _
  refine Wk.bs (cs:=[.int .u8 _,.int .i64 _,.slice w1 _ w2,.slice w3 _ w4]) rfl rfl rfl rfl rfl rfl rfl fun b19=>?_
  first|refine Wk.freezer Rem.head fun Z3 e3 h19=>?_|refine Wk.freeze Rem.head fun Z3 e3 h19=>?_
  have hone:ElsR Z3 (.slice (some ⟨b19,0,none⟩) 1 1) [joinE l.1 4 l.2 a b]:=⟨_,.inr ⟨b19,0,1,_,_,_,rfl,Nat.le_refl _,h19,rfl,.inl rfl⟩,ElRL.snoc (hR0.mono e3) (l:=[]) (us:=[]) (by simp [ElRL])⟩
  repeat first|refine go ?_|with_reducible intro _
  refine Wk.call rfl rfl (Spl.none _) (rCheckEls (hl0.mono (e1.trans (hz2.trans e3))) ht hone (by simp) (fun i hi=>by
   have:i=0:=by simpa using hi
   subst this
   exact fj)) rfl rfl rfl ?_
  rintro v' Z' A' hz3 ⟨rfl,rfl,rfl⟩
  repeat first|refine go ?_|with_reducible intro _
  refine Wk.cond rfl (fun hc=>?_) (fun hc=>?_)
  ·have hne:¬ ElsE l [joinE l.1 4 l.2 a b]=0:=by simpa using hc
   have hg:(joinE l.1 4 l.2 a b).Great:=Classical.byContradiction fun q=>hne ((ElsE_great hC wj).2 q)
   have hj:joinR l a b=(5,El.bot):=by unfold joinR;rw [if_neg (by simpa using h0),if_pos hg]
   rw [hj]
   repeat first|refine go ?_|with_reducible intro _
   refine Wk.ret ⟨_,Rs.cell rfl rfl Ev.hM rfl rfl (Rs.tmp rfl Rs.nil),_,Sub.none _,_,rfl,ElR_bot _,rfl⟩
  ·have he:ElsE l [joinE l.1 4 l.2 a b]=0:=by simpa using hc
   have hj:joinR l a b=(0,joinE l.1 4 l.2 a b):=by unfold joinR;rw [if_neg (by simpa using h0),if_neg ((ElsE_great hC wj).1 he)]
   rw [hj]
   repeat first|refine go ?_|with_reducible intro _
   refine Wk.ret ⟨_,Rs.cell rfl rfl Ev.hM rfl rfl (Rs.tmp rfl Rs.nil),_,Sub.none _,_,rfl,hR0.mono e3,rfl⟩
end Go.Proofs.J
namespace Go.Proofs.J
open Go.Ev Go
end Go.Proofs.J
namespace Go.Proofs.J
open Go.Ev Go
end Go.Proofs.J
namespace Go.Proofs.J
open Go.Ev Go
end Go.Proofs.J
namespace Go.Proofs.J
open Go.Ev Go
end Go.Proofs.J
namespace Go.Proofs.J
open Go.Ev Go
end Go.Proofs.J
namespace Go.Proofs.J
open Go.Ev Go
section
variable {fn:FuncId} {rd:Option Nat} {n:Nat} {Q:PQ} {k:List KI} {L:Lo} {Z:Zone} {A:List SA}
end
end Go.Proofs.J
