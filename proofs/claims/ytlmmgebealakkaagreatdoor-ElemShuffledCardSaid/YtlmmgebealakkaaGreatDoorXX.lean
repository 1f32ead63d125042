/- XX -/
import Derived.Test.YtlmmgebealakkaaGreatDoorHU
import Derived.Test.YtlmmgebealakkaaGreatDoorHK
import Derived.Test.YtlmmgebealakkaaGreatDoorWT
import Derived.Test.YtlmmgebealakkaaGreatDoorEvF
set_option linter.unusedVariables false
set_option linter.unusedSimpArgs false
set_option maxHeartbeats 4000000
set_option maxRecDepth 100000
namespace Go.Proofs.J
open Go.Ev Go
end Go.Proofs.J
namespace Go.Proofs.J
open Go.Ev Go
end Go.Proofs.J
namespace Go.Proofs.J
open Go.Ev Go
end Go.Proofs.J
namespace Go.Proofs.J
open Go.Ev Go
end Go.Proofs.J
namespace Go.Proofs.J
open Go.Ev Go
theorem bot_fit (d:Nat):El.bot.Fit (d+1):=by
 refine ⟨by simp [El.bot,El.levels,elLevelsL],?_⟩
 simp [El.Sm,El.bot,El.keys,El.kids,El.n,El.kind]
end Go.Proofs.J
namespace Go.Proofs.J
open Go.Ev Go
def Gd (l:Lat) (e:El):Prop:=IsW l.1 4 l.2 e∧¬ e.Great
noncomputable abbrev jo (l:Lat) (a b:El):El:=joinE l.1 4 l.2 a b
structure LOk (l:Lat):Prop where
 th:l.Th
 ok:CSE l.1 l.2=0
theorem LOk.T {l:Lat} (h:LOk l):TsOk l.1:=(CSE_ok h.th h.ok).1
theorem LOk.S {l:Lat} (h:LOk l):l.2.Ok:=(CSE_ok h.th h.ok).2
theorem ElsE_gd {l:Lat} {els:List El} (h:LOk l) (k:∀ e∈els,Gd l e):ElsE l els=0:=by
 unfold ElsE
 rw [if_neg (by rw [h.ok];simp),if_pos]
 intro i hi
 exact IsE_iff.2 (k _ (List.getElem_mem hi))
theorem gd_ElsE {l:Lat} {els:List El} (ht:l.Th) (h:ElsE l els=0):LOk l∧∀ e∈els,Gd l e:=⟨⟨ht,(ElsE_zero h).1⟩,(ElsE_zero h).2⟩
theorem Gd.fit {l:Lat} {e:El} (h:LOk l) (k:Gd l e):e.Fit 4:=k.1.fit h.T.ok k.2
theorem gd2 {l:Lat} {a b:El} (h:LOk l) (ha:Gd l a) (hb:Gd l b):ElsE l [a,b]=0:=ElsE_gd h fun e he=>by
 rcases List.mem_cons.1 he with rfl|he
 ·exact ha
 ·rw [List.mem_singleton.1 he];exact hb
open Classical in
theorem joR {l:Lat} {a b:El} (h:LOk l) (ha:Gd l a) (hb:Gd l b):joinR l a b=if (jo l a b).Great then (5,El.bot) else (0,jo l a b):=by
 unfold joinR
 rw [if_neg (by rw [gd2 h ha hb];simp)]
theorem right_S {Z:Zone} {cl:List Value} {ve:Value} {l:Lat} {els:List El} {d:Nat} (hl:LatR Z cl l) (he:ElsR Z ve els) (hn:els.length≤2199023255552) (hd:∀ i (h:i < els.length),(els[i]).Fit d) :
  Cz M (.func (.func 34) #[] #[]) [.agg ⟨cl⟩,ve] Z [] (fun v' Z' A'=>(∃ b,v'=.bool b∧(b=true→(LOk l∧∀ e∈els,Gd l e)∧∀ e∈els,e.sz≤200))∧Z=Z'∧A'=[]):=by
 have hl0:=hl
 have he0:=he
 obtain ⟨l1,l2,l3,l4,rfl,hT,hS⟩:=hl.form
 obtain ⟨ae,ce,rfl⟩:=he.form
 refine Cz.fn (f:=Tryz.f34) Ev.cM rfl rfl rfl _ rfl ?_
 repeat first|refine go ?_|with_reducible intro _
 rename_i b2
 refine Wk.call rfl rfl (Spl.none _) (thinLatS hl0 he0 hn hd) Ev.cM rfl rfl ?_
 rintro v' Z' A' hz ⟨⟨b,rfl,hb⟩,rfl,rfl⟩
 cases b with
 | false =>
  repeat first|refine go ?_|with_reducible intro _
  refine Wk.ret ⟨_,Rs.tmp rfl Rs.nil,_,Sub.none _,⟨false,rfl,fun h=>by cases h⟩,rfl,rfl⟩
 | true =>
 obtain ⟨ht,hs⟩:=hb rfl
 repeat first|refine go ?_|with_reducible intro _
 refine Wk.call rfl rfl (Spl.none _) (rCheckEls hl0 ht he0 hn hd) Ev.cM rfl rfl ?_
 rintro v' Z' A' hz ⟨rfl,rfl,rfl⟩
 repeat first|refine go ?_|with_reducible intro _
 refine Wk.ret ⟨_,Rs.tmp rfl Rs.nil,_,Sub.none _,⟨_,rfl,fun h=>⟨gd_ElsE ht (by simpa using h),fun e he=>by obtain ⟨i,hi,rfl⟩:=List.getElem_of_mem he;exact hs i hi hi⟩⟩,rfl,rfl⟩
theorem right_ {Z:Zone} {cl:List Value} {ve:Value} {l:Lat} {els:List El} {d:Nat} (hl:LatR Z cl l) (he:ElsR Z ve els) (hn:els.length≤2199023255552) (hd:∀ i (h:i < els.length),(els[i]).Fit d) :
  Cz M (.func (.func 34) #[] #[]) [.agg ⟨cl⟩,ve] Z [] (fun v' Z' A'=>(∃ b,v'=.bool b∧(b=true→LOk l∧∀ e∈els,Gd l e))∧Z=Z'∧A'=[]) :=
 (right_S hl he hn hd).mono fun _ _ _ _ ⟨⟨b,e,k⟩,g⟩=>⟨⟨b,e,fun q=>(k q).1⟩,g⟩
end Go.Proofs.J
namespace Go.Proofs.J
open Go.Ev Go
end Go.Proofs.J
namespace Go.Proofs.J
open Go.Ev Go
end Go.Proofs.J
namespace Go.Proofs.J
open Go.Ev Go
end Go.Proofs.J
namespace Go.Proofs.J
open Go.Ev Go
noncomputable def fo (l:Lat) (els:List El) (i:Nat):El:=foldJ l.1 4 l.2 (els.take i)
open Classical in
noncomputable def joinsR (l:Lat) (els:List El):Int×El:=if ElsE l els≠0 then (ElsE l els,El.bot) else if (foldJ l.1 4 l.2 els).Great then (5,El.bot) else (0,foldJ l.1 4 l.2 els)
theorem fo_succ {l:Lat} {els:List El} {i:Nat} (h:i < els.length):fo l els (i+1)=jo l (fo l els i) els[i]:=by
 unfold fo
 rw [List.take_succ_eq_append_getElem h,foldJ_snoc]
theorem fo_all {l:Lat} {els:List El}:fo l els els.length=foldJ l.1 4 l.2 els:=by unfold fo;rw [List.take_length]
theorem fo_W {l:Lat} {els:List El} (h:LOk l) (hg:∀ e∈els,Gd l e) (i:Nat):IsW l.1 4 l.2 (fo l els i):=foldJ_W h.T.lat fun x hx=>(hg x (List.mem_of_mem_take hx)).1
theorem fo_great {l:Lat} {els:List El} (h:LOk l) (hg:∀ e∈els,Gd l e) {i:Nat} (g:(fo l els i).Great):(foldJ l.1 4 l.2 els).Great :=
 (foldJ_take h.T.lat (fun x hx=>(hg x hx).1) i).great h.T.lat (fo_W h hg i) (foldJ_W h.T.lat fun x hx=>(hg x hx).1) g
theorem rJoinAll {Z:Zone} {cl:List Value} {ve:Value} {l:Lat} {els:List El} {dd:Nat} (hl:LatR Z cl l) (ht:l.Th) (he:ElsR Z ve els) (hn:els.length≤2199023255552) (hf:∀ i (h:i < els.length),(els[i]).Fit dd) :
  Cz M (.func (.func 39) #[] #[]) [.agg ⟨cl⟩,ve] Z [] (fun v' Z' A'=>∃ cs,v'=.tuple ⟨[.agg ⟨cs⟩,.int .i64 (joinsR l els).1]⟩∧ElR Z' (joinsR l els).2 cs∧A'=[]):=by
 classical
 have hl0:=hl
 have he0:=he
 obtain ⟨l1,l2,l3,l4,rfl,hT,hS⟩:=hl.form
 obtain ⟨ae,ce,rfl⟩:=he.form
 obtain ⟨us,s0,hre⟩:=he
 refine Cz.fn (f:=Tryz.f39) Ev.cM rfl rfl rfl _ rfl ?_
 repeat first|refine go ?_|with_reducible intro _
 rename_i b2 b4
 refine Wk.call rfl rfl (Spl.none _) (rCheckEls hl0 ht he0 hn hf) rfl rfl rfl ?_
 rintro v' Z' A' hz ⟨rfl,rfl,rfl⟩
 repeat first|refine go ?_|with_reducible intro _
 refine Wk.cond rfl (fun hc=>?_) (fun hc=>?_)
 ·have hne:ElsE l els≠0:=by simpa using hc
  have hj:joinsR l els=(ElsE l els,El.bot):=by unfold joinsR;rw [if_pos hne]
  rw [hj]
  repeat first|refine go ?_|with_reducible intro _
  refine Wk.ret ⟨_,Rs.cell rfl rfl Ev.hM rfl rfl (Rs.tmp rfl Rs.nil),_,Sub.none _,_,rfl,ElR_bot _,rfl⟩
 have h0:ElsE l els=0:=by simpa using hc
 clear hc
 obtain ⟨h,hg⟩:=gd_ElsE ht h0
 repeat first|refine go ?_|with_reducible intro _
 rename_i b7
 apply Wk.freeze (b:=b2)
 case p=>repeat (first|exact Rem.head|apply Rem.tail)
 intro Z2 e2 h2
 replace s0:=s0.mono e2
 repeat first|refine go ?_|with_reducible intro _
 refine Wk.loop (fun w L Z' A'=>∃ (i:Nat),∃ x1 x2 x3 x4 x5 x6,i≤els.length∧w=els.length - i∧Ext Z2 Z'∧¬ (fo l els i).Great∧Sub A' [pt b7 (.cells [.int .u8 x1,.int .i64 x2,.slice x3 (fo l els i).keys.length x4,.slice x5 (fo l els i).kids.length x6] true 0),pt b4 (.cells [.int .u8 0,.int .i64 0,.slice none 0 0,.slice none 0 0] true 0)]∧ElR Z' (fo l els i) [.int .u8 x1,.int .i64 x2,.slice x3 (fo l els i).keys.length x4,.slice x5 (fo l els i).kids.length x6]∧Kp L [(1,.slice ae els.length ce),(2,.pointer (some ⟨b2,0,none⟩)),(4,.pointer (some ⟨b4,0,none⟩)),(7,.pointer (some ⟨b7,0,none⟩)),(8,.int .i64 i)]) els.length ⟨0,0,0,none,0,none,0,Nat.zero_le _,rfl,Ext.refl _,bot_not_great,.keep (.keep (Sub.none _)),ElR_bot _,Ev.kM⟩ ?_
 rintro w' L Z8 A8 - ⟨i,x1,x2,x3,x4,x5,x6,hi,rfl,e8,hng,hsub,hout,hkp⟩
 refine Wk.drop hsub ?_
 refine Wk.kp hkp ?_
 clear hkp hsub
 have h2':=e8 _ _ h2
 have s8:=s0.mono e8
 have hl8:=hl0.mono (e2.trans e8)
 repeat first|refine go ?_|with_reducible intro _
 refine Wk.cond rfl (fun hc=>?_) (fun hc=>?_)
 ·have hit:i < els.length:=by simp at hc;omega
  clear hc
  obtain ⟨kp,np,xp1,mp1,yp1,xp2,mp2,yp2,gp,rp⟩:=hre.get i hit
  have rp8:=rp.mono (e2.trans e8)
  have wo:Gd l (fo l els i):=⟨fo_W h hg i,hng⟩
  have gx:=hg _ (List.getElem_mem hit)
  have hs:=fo_succ (l:=l) hit
  repeat first|refine go ?_|with_reducible intro _
  refine Wk.drawr (ms:=[0,0,0,0,12,28,63,127,255,255,0,1535,4095]) (l:=[0,1,2,3,4,5,10,6,7,8,9,11,12]) Ev.cM Ev.cM Ev.cM rfl ?_
  repeat first|refine go ?_|with_reducible intro _
  refine Wk.callD rfl rfl (Spl.none _) (rElemJoin hl8 ht hout rp8 (wo.fit h) (gx.fit h)) rfl rfl fun _ _ A' hz9 hq=>?_
  obtain ⟨cj,rfl,hj,rfl⟩:=hq
  have h2'':=hz9 _ _ h2'
  have s9:=s8.mono hz9
  refine ⟨?_,?_⟩
  ·exact Ev.pM2
  rw [joR h wo gx,←hs] at hj ⊢
  have e9:=e8.trans hz9
  by_cases g:(fo l els (i+1)).Great
  ·rw [if_pos g] at hj ⊢
   obtain ⟨u1,u2,u3,u4,_,rfl,_,_,_⟩:=id hj.form
   have hr:joinsR l els=(5,El.bot):=by unfold joinsR;rw [if_neg (by simpa using h0),if_pos (fo_great h hg g)]
   rw [hr]
   repeat first|refine go ?_|with_reducible intro _
   refine Wk.store rfl rfl rfl rfl rfl Ev.uM rfl Ev.cM rfl ?_
   repeat first|refine go ?_|with_reducible intro _
   refine Wk.ret ⟨_,Rs.cell rfl rfl Ev.hM rfl rfl (Rs.tmp rfl Rs.nil),_,Sub.none _,_,rfl,ElR_bot _,rfl⟩
  ·rw [if_neg g] at hj ⊢
   obtain ⟨u1,u2,u3,u4,_,rfl,_,_,_⟩:=id hj.form
   repeat first|refine go ?_|with_reducible intro _
   refine Wk.store rfl rfl rfl rfl rfl Ev.uM rfl Ev.cM rfl ?_
   repeat first|refine go ?_|with_reducible intro _
   refine Wk.inv ⟨_,by omega,i+1,_,_,_,_,_,_,hit,rfl,e9,g,by repeat (first|exact Sub.none _|exact Sub.refl _|refine Sub.keep ?_|refine Sub.drop ?_),hj,Ev.kM⟩
 ·have hin:i=els.length:=by simp at hc;omega
  subst hin
  rw [fo_all] at hng hout ⊢
  have hr:joinsR l els=(0,foldJ l.1 4 l.2 els):=by unfold joinsR;rw [if_neg (by simpa using h0),if_neg hng]
  rw [hr]
  repeat first|refine go ?_|with_reducible intro _
  refine Wk.ret ⟨_,Rs.cell rfl rfl Ev.hM rfl rfl (Rs.tmp rfl Rs.nil),_,Sub.none _,_,rfl,hout,rfl⟩
end Go.Proofs.J
namespace Go.Proofs.J
open Go.Ev Go
theorem ElsE_small {l:Lat} {els:List El} (h:LOk l∧∀ e∈els,Gd l e) (g:¬ (foldJ l.1 4 l.2 els).Great):joinsR l els=(0,foldJ l.1 4 l.2 els):=by
 classical
 unfold joinsR;rw [if_neg (by rw [ElsE_gd h.1 h.2];simp),if_neg g]
theorem ElsE_big {l:Lat} {els:List El} (h:LOk l∧∀ e∈els,Gd l e) (g:(foldJ l.1 4 l.2 els).Great):joinsR l els=(5,El.bot):=by
 classical
 unfold joinsR;rw [if_neg (by rw [ElsE_gd h.1 h.2];simp),if_pos g]
theorem ElsE_no {l:Lat} {els:List El} (h:ElsE l els≠0):joinsR l els=(ElsE l els,El.bot):=by
 classical
 unfold joinsR;rw [if_pos h]
def JSt (l:Lat) (els:List El) (i:Nat) (er:Int) (r:El):Prop:=(er=0∧(LOk l∧∀ e∈els,Gd l e)∧r=fo l els i∧¬ r.Great)∨(er≠0∧joinsR l els=(er,r))
theorem JSt.first {l:Lat} {els:List El} (ht:l.Th):JSt l els 0 (ElsE l els) El.bot:=by
 by_cases h:ElsE l els=0
 ·exact .inl ⟨h,gd_ElsE ht h,rfl,bot_not_great⟩
 ·exact .inr ⟨h,ElsE_no h⟩
theorem JSt.last {l:Lat} {els:List El} {er:Int} {r:El} (h:JSt l els els.length er r):joinsR l els=(er,r):=by
 rcases h with ⟨rfl,h,rfl,g⟩|⟨_,h⟩
 ·rw [fo_all] at g ⊢;exact ElsE_small h g
 ·exact h
theorem elemJoinAll {Z:Zone} {cl:List Value} {ve:Value} {l:Lat} {els:List El} {dd:Nat} (hl:LatR Z cl l) (ht:l.Th) (he:ElsR Z ve els) (hn:els.length≤2199023255552) (hf:∀ i (h:i < els.length),(els[i]).Fit dd) :
  Cz M (.func (.func 38) #[] #[]) [.agg ⟨cl⟩,ve] Z [] (fun v' Z' A'=>∃ cs,v'=.tuple ⟨[.agg ⟨cs⟩,.int .i64 (joinsR l els).1]⟩∧ElR Z' (joinsR l els).2 cs∧A'=[]):=by
 classical
 have hl0:=hl
 have he0:=he
 obtain ⟨l1,l2,l3,l4,rfl,hT,hS⟩:=hl.form
 obtain ⟨ae,ce,rfl⟩:=he.form
 obtain ⟨us,s0,hre⟩:=he
 refine Cz.fn (f:=Tryz.f38) Ev.cM rfl rfl rfl _ rfl ?_
 repeat first|refine go ?_|with_reducible intro _
 rename_i b2 b4
 refine Wk.call rfl rfl (Spl.none _) (open_E hl0 ht he0 hn hf) rfl rfl rfl ?_
 rintro v' Z' A' hz ⟨⟨cs,rfl,hcl,hL1⟩,rfl,rfl⟩
 have hL0:=hL1
 obtain ⟨m1,m2,m3,m4,rfl,_,_⟩:=hL1.form
 repeat first|refine go ?_|with_reducible intro _
 rename_i b6
 apply Wk.freeze (b:=b2)
 case p=>repeat (first|exact Rem.head|apply Rem.tail)
 intro Z2 e2 h2
 apply Wk.freeze (b:=b6)
 case p=>repeat (first|exact Rem.head|apply Rem.tail)
 intro Z3 e3 h6
 replace h2:=e3 _ _ h2
 replace s0:=s0.mono (e2.trans e3)
 have e23:=e2.trans e3
 repeat first|refine go ?_|with_reducible intro _
 refine Wk.loop (fun w L Z' A'=>∃ (i:Nat) (er:Int) (r:El),∃ x1 x2 x3 x4 x5 x6,i≤els.length∧w=els.length - i∧Ext Z3 Z'∧JSt l els i er r∧Sub A' [pt b4 (.cells [.int .u8 x1,.int .i64 x2,.slice x3 r.keys.length x4,.slice x5 r.kids.length x6] true 0)]∧ElR Z' r [.int .u8 x1,.int .i64 x2,.slice x3 r.keys.length x4,.slice x5 r.kids.length x6]∧Kp L [(1,.slice ae els.length ce),(2,.pointer (some ⟨b2,0,none⟩)),(4,.pointer (some ⟨b4,0,none⟩)),(5,.int .i64 er),(6,.pointer (some ⟨b6,0,none⟩)),(7,.int .i64 i)]) els.length ⟨0,ElsE l els,El.bot,0,0,none,0,none,0,Nat.zero_le _,rfl,Ext.refl _,JSt.first ht,.keep (Sub.none _),ElR_bot _,Ev.kM⟩ ?_
 rintro w' L Z8 A8 - ⟨i,er,r,x1,x2,x3,x4,x5,x6,hi,rfl,e8,hst,hsub,hout,hkp⟩
 refine Wk.drop hsub ?_
 refine Wk.kp hkp ?_
 clear hkp hsub
 have h2':=e8 _ _ h2
 have h6':=e8 _ _ h6
 have s8:=s0.mono e8
 repeat first|refine go ?_|with_reducible intro _
 refine Wk.caser 18 rfl (fun hc=>?_) (fun hc=>?_)
 rotate_left
 ·have hin:i=els.length:=by simp at hc;omega
  subst hin
  clear hc
  rw [hst.last]
  repeat first|refine go ?_|with_reducible intro _
  refine Wk.ret ⟨_,Rs.cell rfl rfl Ev.hM rfl rfl (Rs.tmp rfl Rs.nil),_,Sub.none _,_,rfl,hout,rfl⟩
 have hit:i < els.length:=by simp at hc;omega
 clear hc
 repeat first|refine go ?_|with_reducible intro _
 refine Wk.cond rfl (fun hc=>?_) (fun hc=>?_)
 rotate_left
 ·have hne:er≠0:=by simpa using hc
  rcases hst with ⟨q,_⟩|⟨_,q⟩
  ·exact absurd q hne
  rw [q]
  repeat first|refine go ?_|with_reducible intro _
  refine Wk.ret ⟨_,Rs.cell rfl rfl Ev.hM rfl rfl (Rs.tmp rfl Rs.nil),_,Sub.none _,_,rfl,hout,rfl⟩
 obtain rfl:er=0:=by simpa using hc
 clear hc
 obtain ⟨hk,rfl,hng⟩:(LOk l∧∀ e∈els,Gd l e)∧r=fo l els i∧¬ r.Great:=by
  rcases hst with ⟨_,q⟩|⟨q,_⟩
  ·exact q
  ·exact absurd rfl q
 obtain ⟨h,hg⟩:=hk
 obtain ⟨kp,np,xp1,mp1,yp1,xp2,mp2,yp2,gp,rp⟩:=hre.get i hit
 have rp8:=rp.mono (e23.trans e8)
 have wo:Gd l (fo l els i):=⟨fo_W h hg i,hng⟩
 have gx:=hg _ (List.getElem_mem hit)
 have hs:=fo_succ (l:=l) hit
 repeat first|refine go ?_|with_reducible intro _
 refine Wk.drawr (ms:=[0,0,2,0,0,0,48,112,255,511,1023,2047,2047,4095,16383]) (l:=[0,1,2,3,4,5,6,7,8,9,10,11,12,13,14]) Ev.cM Ev.cM Ev.cM rfl ?_
 repeat first|refine go ?_|with_reducible intro _
 refine Wk.callD rfl rfl (Spl.none _) (join_e h.T 4 rfl (hL0.mono (e23.trans e8)) (hS.mono (e23.trans e8)) hout rp8 wo.1 gx.1 wo.2 gx.2 h.S) rfl rfl fun _ _ A' hz9 hq=>?_
 obtain ⟨cj,rfl,hj,rfl⟩:=hq
 have h2'':=hz9 _ _ h2'
 have h6'':=hz9 _ _ h6'
 have s9:=s8.mono hz9
 refine ⟨?_,?_⟩
 ·exact Ev.pM2
 rw [show joinE l.1 4 l.2 (fo l els i) els[i]=fo l els (i+1) from hs.symm] at hj
 repeat first|refine go ?_|with_reducible intro _
 refine Wk.callD rfl rfl (Spl.none _) (limited_ hj (by rw [hs];exact joinE_fit h.T wo.1 gx.1 wo.2 gx.2)) rfl rfl fun _ _ A' hz3 hq=>?_
 obtain ⟨hq,rfl,rfl⟩:=hq
 refine ⟨?_,?_⟩
 ·exact Ev.pM2
 obtain ⟨u1,u2,u3,u4,_,rfl,_,_,_⟩:=id hj.form
 rcases hq with ⟨g,rfl⟩|⟨g,rfl⟩
 ·repeat first|refine go ?_|with_reducible intro _
  refine Wk.storeD rfl rfl rfl rfl rfl Ev.uM rfl rfl ⟨?_,?_⟩
  ·exact Ev.pM2
  repeat first|refine go ?_|with_reducible intro _
  refine Wk.inv ⟨_,by omega,i+1,5,El.bot,_,_,_,_,_,_,hit,rfl,e8.trans hz9,.inr ⟨by decide,ElsE_big ⟨h,hg⟩ (fo_great h hg g)⟩,by repeat (first|exact Sub.none _|exact Sub.refl _|refine Sub.keep ?_|refine Sub.drop ?_),ElR_bot _,Ev.kM⟩
 ·repeat first|refine go ?_|with_reducible intro _
  refine Wk.storeD rfl rfl rfl rfl rfl Ev.uM rfl rfl ⟨?_,?_⟩
  ·exact Ev.pM2
  repeat first|refine go ?_|with_reducible intro _
  refine Wk.inv ⟨_,by omega,i+1,0,fo l els (i+1),_,_,_,_,_,_,hit,rfl,e8.trans hz9,.inl ⟨rfl,⟨h,hg⟩,rfl,g⟩,by repeat (first|exact Sub.none _|exact Sub.refl _|refine Sub.keep ?_|refine Sub.drop ?_),hj,Ev.kM⟩
end Go.Proofs.J
namespace Go.Proofs.J
open Go.Ev Go
end Go.Proofs.J
namespace Go.Proofs.J
open Go.Ev Go
end Go.Proofs.J
namespace Go.Proofs.J
open Go Go.Ev
end Go.Proofs.J
namespace Go.Proofs.J
open Go Go.Ev
theorem wtv_lat {Z:Zone} {v:Value} (h:WtV Tryz.prog Z 27 v):∃ cs l,v=.agg ⟨cs⟩∧LatR Z cs l:=by
 obtain ⟨⟨d,w⟩,s⟩:=h
 rw [Tryz.underlying27] at s
 obtain ⟨⟨cs⟩,rfl⟩:=s
 obtain ⟨l,hl⟩:=wt_lattice w
 exact ⟨cs,l,rfl,hl⟩
end Go.Proofs.J
namespace Go.Proofs.J
open Go Go.Ev
end Go.Proofs.J
namespace Go.Proofs.J
open Go.Ev Go
theorem joinsR_fit {l:Lat} {els:List El} (ht:l.Th):(joinsR l els).2.Fit 4:=by
 classical
 unfold joinsR
 split
 ·exact bot_fit _
 ·rename_i h
  have k:=gd_ElsE ht (Classical.not_not.1 h)
  split
  ·exact bot_fit _
  ·rename_i g
   exact Gd.fit k.1 ⟨foldJ_W k.1.T.lat fun x hx=>(k.2 x hx).1,g⟩
theorem ElemLists {Z:Zone} {cl:List Value} {ve:Value} {l:Lat} {els:List El} {d:Nat} (hl:LatR Z cl l) (he:ElsR Z ve els) (hn:els.length≤2199023255552) (hf:∀ i (h:i < els.length),(els[i]).Fit d) :
  Cz M (.func (.func 8) #[] #[]) [.agg ⟨cl⟩,ve] Z [] (fun v' Z' A'=>v'=.bool true):=by
 have hl0:=hl
 have he0:=he
 obtain ⟨l1,l2,l3,l4,rfl,hT,hS⟩:=hl.form
 obtain ⟨ae,ce,rfl⟩:=he.form
 clear hl he hT hS
 refine Cz.fn (f:=Tryz.f8) Ev.cM rfl rfl rfl _ rfl ?_
 repeat first|refine go ?_|with_reducible intro _
 refine Wk.caser 13 rfl (fun hc=>?_) (fun hc=>?_)
 ·repeat first|refine go ?_|with_reducible intro _
  refine Wk.call rfl rfl (Spl.none _) ((Cz.ora rfl)) rfl rfl rfl ?_
  rintro v' Z' A' hz ⟨rfl,rfl,rfl⟩
  repeat first|refine go ?_|with_reducible intro _
  exact Wk.ret ⟨_,Rs.tmp rfl Rs.nil,_,Sub.none _,rfl⟩
 have h12:els.length≤12:=by simp at hc;omega
 clear hc
 repeat first|refine go ?_|with_reducible intro _
 refine Wk.call rfl rfl (Spl.none _) (thinLatE hl0 he0 hn hf) rfl rfl rfl ?_
 rintro v' Z' A' hz ⟨⟨bb,rfl,hbb⟩,rfl,rfl⟩
 cases bb with
 | false =>
  repeat first|refine go ?_|with_reducible intro _
  refine Wk.call rfl rfl (Spl.none _) ((Cz.ora rfl)) rfl rfl rfl ?_
  rintro v' Z' A' hz ⟨rfl,rfl,rfl⟩
  repeat first|refine go ?_|with_reducible intro _
  exact Wk.ret ⟨_,Rs.tmp rfl Rs.nil,_,Sub.none _,rfl⟩
 | true =>
 have ht:=hbb rfl
 repeat first|refine go ?_|with_reducible intro _
 refine Wk.call rfl rfl (Spl.none _) (copyEls he0 hn hf) rfl rfl rfl ?_
 rintro vc Z2 A' hz2 ⟨hc,rfl⟩
 replace hl0:=hl0.mono hz2
 replace he0:=he0.mono hz2
 repeat first|refine go ?_|with_reducible intro _
 refine Wk.call rfl rfl (Spl.none _) (copyLattice hl0 ht) rfl rfl rfl ?_
 rintro v2 Z3 A' hz3 ⟨c1,rfl,hL,rfl⟩
 replace hl0:=hl0.mono hz3
 replace he0:=he0.mono hz3
 replace hc:=hc.mono hz3
 repeat first|refine go ?_|with_reducible intro _
 refine Wk.call rfl rfl (Spl.none _) (elemJoinAll hL ht hc hn hf) rfl rfl rfl ?_
 rintro v3 Z4 A' hz4 ⟨c2,rfl,hj,rfl⟩
 replace hl0:=hl0.mono hz4
 replace he0:=he0.mono hz4
 replace hc:=hc.mono hz4
 obtain ⟨x1,x2,x3,x4,_,rfl,_,_,_⟩:=id hj.form
 repeat first|refine go ?_|with_reducible intro _
 refine Wk.call rfl rfl (Spl.none _) (rJoinAll hl0 ht he0 hn hf) rfl rfl rfl ?_
 rintro v4 Z5 A' hz5 ⟨c3,rfl,hk,rfl⟩
 replace he0:=he0.mono hz5
 replace hc:=hc.mono hz5
 replace hj:=hj.mono hz5
 obtain ⟨y1,y2,y3,y4,_,rfl,_,_,_⟩:=id hk.form
 repeat first|refine go ?_|with_reducible intro _
 refine Wk.call rfl rfl (Spl.none _) (sameEl _ (joinsR_fit ht) hj hk) rfl rfl rfl ?_
 rintro v' Z' A' hz ⟨⟨sa,rfl,hsa⟩,rfl,rfl⟩
 obtain rfl:sa=true:=hsa.2 rfl
 repeat first|refine go ?_|with_reducible intro _
 refine Wk.caser 43 rfl (fun hq=>?_) (fun hq=>absurd hq (by simp))
 clear hq
 repeat first|refine go ?_|with_reducible intro _
 refine Wk.call rfl rfl (Spl.none _) (sameEls hc he0 hn hf) rfl rfl rfl ?_
 rintro v' Z' A' hz ⟨⟨sb,rfl,hsb⟩,rfl,rfl⟩
 obtain rfl:sb=true:=hsb.2 rfl
 repeat first|refine go ?_|with_reducible intro _
 refine Wk.call rfl rfl (Spl.none _) ((Cz.ora rfl)) rfl rfl rfl ?_
 rintro v' Z' A' hz ⟨rfl,rfl,rfl⟩
 repeat first|refine go ?_|with_reducible intro _
 exact Wk.ret ⟨_,Rs.tmp rfl Rs.nil,_,Sub.none _,rfl⟩
end Go.Proofs.J
namespace Go.Proofs.J
open Go Go.Ev
theorem wtv_elems {Z:Zone} {v:Value} (h:WtV Tryz.prog Z 29 v):∃ els d,ElsR Z v els∧els.length≤2199023255552∧∀ i (h:i < els.length),(els[i]).Fit d:=by
 obtain ⟨⟨d,w⟩,s⟩:=h
 obtain ⟨v',els,e,hR,hn,hI⟩:=wt_elems w
 rw [Tryz.underlying29] at s
 have s':cellsL v=[v]:=s
 rw [s'] at e
 have:v'=v:=(List.cons.inj e).1.symm
 subst this
 exact ⟨els,d,hR,hn,fun i hi=>(hI _ (List.getElem_mem hi)).fit⟩
theorem lists_law (Z:Zone) (xs:List Value) (h:All2 (fun a t=>WtV Tryz.prog Z t a) xs [27,29]):Cz M (.func (.func 8) #[] #[]) xs Z [] (fun v _ _=>v=.bool true):=by
 cases h with
 | cons h1 h =>
  cases h with
  | cons h2 h =>
   cases h
   obtain ⟨c1,l,rfl,r1⟩:=wtv_lat h1
   obtain ⟨els,d,he,hn,hf⟩:=wtv_elems h2
   exact ElemLists r1 he hn hf
end Go.Proofs.J
