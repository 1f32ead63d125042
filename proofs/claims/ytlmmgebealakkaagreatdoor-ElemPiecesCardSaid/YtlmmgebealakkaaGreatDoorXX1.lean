/- XX1 -/
import Derived.Test.YtlmmgebealakkaaGreatDoorEvF
import Derived.Test.YtlmmgebealakkaaGreatDoorXX
import Derived.Test.YtlmmgebealakkaaGreatDoorHU
set_option linter.unusedVariables false
set_option linter.unusedSimpArgs false
set_option maxHeartbeats 4000000
set_option maxRecDepth 100000
namespace Go.Proofs.J
open Go.Ev Go
noncomputable def fo (l:Lat) (els:List El) (i:Nat):El:=foldJ l.1 4 l.2 (els.take i)
open Classical in
noncomputable def joinsR (l:Lat) (els:List El):Int×El:=if ElsE l els≠0 then (ElsE l els,El.bot) else if (foldJ l.1 4 l.2 els).Great then (5,El.bot) else (0,foldJ l.1 4 l.2 els)
theorem fo_succ {l:Lat} {els:List El} {i:Nat} (h:i < els.length):fo l els (i+1)=jo l (fo l els i) els[i]:=by
 unfold fo
 rw [List.take_succ_eq_append_getElem h,foldJ_snoc]
theorem fo_all {l:Lat} {els:List El}:fo l els els.length=foldJ l.1 4 l.2 els:=by unfold fo;rw [List.take_length]
theorem fo_W {l:Lat} {els:List El} (h:LOk l) (hg:∀ e∈els,Gd l e) (i:Nat):IsW l.1 4 l.2 (fo l els i):=foldJ_W h.T.lat fun x hx=>(hg x (List.mem_of_mem_take hx)).1
theorem fo_great {l:Lat} {els:List El} (h:LOk l) (hg:∀ e∈els,Gd l e) {i:Nat} (g:(fo l els i).Great):(foldJ l.1 4 l.2 els).Great :=
 (foldJ_take h.T.lat (fun x hx=>(hg x hx).1) i).great h.T.lat (fo_W h hg i) (foldJ_W h.T.lat fun x hx=>(hg x hx).1) g
end Go.Proofs.J
namespace Go.Proofs.J
open Go.Ev Go
theorem ElsE_small {l:Lat} {els:List El} (h:LOk l∧∀ e∈els,Gd l e) (g:¬ (foldJ l.1 4 l.2 els).Great):joinsR l els=(0,foldJ l.1 4 l.2 els):=by
 classical
 unfold joinsR;rw [if_neg (by rw [ElsE_gd h.1 h.2];simp),if_neg g]
theorem ElsE_big {l:Lat} {els:List El} (h:LOk l∧∀ e∈els,Gd l e) (g:(foldJ l.1 4 l.2 els).Great):joinsR l els=(5,El.bot):=by
 classical
 unfold joinsR;rw [if_neg (by rw [ElsE_gd h.1 h.2];simp),if_pos g]
theorem ElsE_no {l:Lat} {els:List El} (h:ElsE l els≠0):joinsR l els=(ElsE l els,El.bot):=by
 classical
 unfold joinsR;rw [if_pos h]
def JSt (l:Lat) (els:List El) (i:Nat) (er:Int) (r:El):Prop:=(er=0∧(LOk l∧∀ e∈els,Gd l e)∧r=fo l els i∧¬ r.Great)∨(er≠0∧joinsR l els=(er,r))
theorem JSt.first {l:Lat} {els:List El} (ht:l.Th):JSt l els 0 (ElsE l els) El.bot:=by
 by_cases h:ElsE l els=0
 ·exact .inl ⟨h,gd_ElsE ht h,rfl,bot_not_great⟩
 ·exact .inr ⟨h,ElsE_no h⟩
theorem JSt.last {l:Lat} {els:List El} {er:Int} {r:El} (h:JSt l els els.length er r):joinsR l els=(er,r):=by
 rcases h with ⟨rfl,h,rfl,g⟩|⟨_,h⟩
 ·rw [fo_all] at g ⊢;exact ElsE_small h g
 ·exact h
theorem elemJoinAll {Z:Zone} {cl:List Value} {ve:Value} {l:Lat} {els:List El} {dd:Nat} (hl:LatR Z cl l) (ht:l.Th) (he:ElsR Z ve els) (hn:els.length≤2199023255552) (hf:∀ i (h:i < els.length),(els[i]).Fit dd) :
  Cz M (.func (.func 38) #[] #[]) [.agg ⟨cl⟩,ve] Z [] (fun v' Z' A'=>∃ cs,v'=.tuple ⟨[.agg ⟨cs⟩,.int .i64 (joinsR l els).1]⟩∧ElR Z' (joinsR l els).2 cs∧A'=[]):=by
 classical
 have hl0:=hl
 have he0:=he
 obtain ⟨l1,l2,l3,l4,rfl,hT,hS⟩:=hl.form
 obtain ⟨ae,ce,rfl⟩:=he.form
 obtain ⟨us,s0,hre⟩:=he
 refine Cz.fn (f:=Tryz.f38) Ev.cM rfl rfl rfl _ rfl ?_
 repeat first|refine go ?_|with_reducible intro _
 rename_i b2 b4
 refine Wk.call rfl rfl (Spl.none _) (open_E hl0 ht he0 hn hf) rfl rfl rfl ?_
 rintro v' Z' A' hz ⟨⟨cs,rfl,hcl,hL1⟩,rfl,rfl⟩
 have hL0:=hL1
 obtain ⟨m1,m2,m3,m4,rfl,_,_⟩:=hL1.form
 repeat first|refine go ?_|with_reducible intro _
 rename_i b6
 apply Wk.freeze (b:=b2)
 case p=>repeat (first|exact Rem.head|apply Rem.tail)
 intro Z2 e2 h2
 apply Wk.freeze (b:=b6)
 case p=>repeat (first|exact Rem.head|apply Rem.tail)
 intro Z3 e3 h6
 replace h2:=e3 _ _ h2
 replace s0:=s0.mono (e2.trans e3)
 have e23:=e2.trans e3
 repeat first|refine go ?_|with_reducible intro _
 refine Wk.loop (fun w L Z' A'=>∃ (i:Nat) (er:Int) (r:El),∃ x1 x2 x3 x4 x5 x6,i≤els.length∧w=els.length - i∧Ext Z3 Z'∧JSt l els i er r∧Sub A' [pt b4 (.cells [.int .u8 x1,.int .i64 x2,.slice x3 r.keys.length x4,.slice x5 r.kids.length x6] true 0)]∧ElR Z' r [.int .u8 x1,.int .i64 x2,.slice x3 r.keys.length x4,.slice x5 r.kids.length x6]∧Kp L [(1,.slice ae els.length ce),(2,.pointer (some ⟨b2,0,none⟩)),(4,.pointer (some ⟨b4,0,none⟩)),(5,.int .i64 er),(6,.pointer (some ⟨b6,0,none⟩)),(7,.int .i64 i)]) els.length ⟨0,ElsE l els,El.bot,0,0,none,0,none,0,Nat.zero_le _,rfl,Ext.refl _,JSt.first ht,.keep (Sub.none _),ElR_bot _,Ev.kM⟩ ?_
 rintro w' L Z8 A8 - ⟨i,er,r,x1,x2,x3,x4,x5,x6,hi,rfl,e8,hst,hsub,hout,hkp⟩
 refine Wk.drop hsub ?_
 refine Wk.kp hkp ?_
 clear hkp hsub
 have h2':=e8 _ _ h2
 have h6':=e8 _ _ h6
 have s8:=s0.mono e8
 repeat first|refine go ?_|with_reducible intro _
 refine Wk.caser 18 rfl (fun hc=>?_) (fun hc=>?_)
 rotate_left
 ·have hin:i=els.length:=by simp at hc;omega
  subst hin
  clear hc
  rw [hst.last]
  repeat first|refine go ?_|with_reducible intro _
  refine Wk.ret ⟨_,Rs.cell rfl rfl Ev.hM rfl rfl (Rs.tmp rfl Rs.nil),_,Sub.none _,_,rfl,hout,rfl⟩
 have hit:i < els.length:=by simp at hc;omega
 clear hc
 repeat first|refine go ?_|with_reducible intro _
 refine Wk.cond rfl (fun hc=>?_) (fun hc=>?_)
 rotate_left
 ·have hne:er≠0:=by simpa using hc
  rcases hst with ⟨q,_⟩|⟨_,q⟩
  ·exact absurd q hne
  rw [q]
  repeat first|refine go ?_|with_reducible intro _
  refine Wk.ret ⟨_,Rs.cell rfl rfl Ev.hM rfl rfl (Rs.tmp rfl Rs.nil),_,Sub.none _,_,rfl,hout,rfl⟩
 obtain rfl:er=0:=by simpa using hc
 clear hc
 obtain ⟨hk,rfl,hng⟩:(LOk l∧∀ e∈els,Gd l e)∧r=fo l els i∧¬ r.Great:=by
  rcases hst with ⟨_,q⟩|⟨q,_⟩
  ·exact q
  ·exact absurd rfl q
 obtain ⟨h,hg⟩:=hk
 obtain ⟨kp,np,xp1,mp1,yp1,xp2,mp2,yp2,gp,rp⟩:=hre.get i hit
 have rp8:=rp.mono (e23.trans e8)
 have wo:Gd l (fo l els i):=⟨fo_W h hg i,hng⟩
 have gx:=hg _ (List.getElem_mem hit)
 have hs:=fo_succ (l:=l) hit
 repeat first|refine go ?_|with_reducible intro _
 refine Wk.drawr (ms:=[0,0,2,0,0,0,48,112,255,511,1023,2047,2047,4095,16383]) (l:=[0,1,2,3,4,5,6,7,8,9,10,11,12,13,14]) Ev.cM Ev.cM Ev.cM rfl ?_
 repeat first|refine go ?_|with_reducible intro _
 refine Wk.callD rfl rfl (Spl.none _) (join_e h.T 4 rfl (hL0.mono (e23.trans e8)) (hS.mono (e23.trans e8)) hout rp8 wo.1 gx.1 wo.2 gx.2 h.S) rfl rfl fun _ _ A' hz9 hq=>?_
 obtain ⟨cj,rfl,hj,rfl⟩:=hq
 have h2'':=hz9 _ _ h2'
 have h6'':=hz9 _ _ h6'
 have s9:=s8.mono hz9
 refine ⟨?_,?_⟩
 ·exact Ev.pM2
 rw [show joinE l.1 4 l.2 (fo l els i) els[i]=fo l els (i+1) from hs.symm] at hj
 repeat first|refine go ?_|with_reducible intro _
 refine Wk.callD rfl rfl (Spl.none _) (limited_ hj (by rw [hs];exact joinE_fit h.T wo.1 gx.1 wo.2 gx.2)) rfl rfl fun _ _ A' hz3 hq=>?_
 obtain ⟨hq,rfl,rfl⟩:=hq
 refine ⟨?_,?_⟩
 ·exact Ev.pM2
 obtain ⟨u1,u2,u3,u4,_,rfl,_,_,_⟩:=id hj.form
 rcases hq with ⟨g,rfl⟩|⟨g,rfl⟩
 ·repeat first|refine go ?_|with_reducible intro _
  refine Wk.storeD rfl rfl rfl rfl rfl Ev.uM rfl rfl ⟨?_,?_⟩
  ·exact Ev.pM2
  repeat first|refine go ?_|with_reducible intro _
  refine Wk.inv ⟨_,by omega,i+1,5,El.bot,_,_,_,_,_,_,hit,rfl,e8.trans hz9,.inr ⟨by decide,ElsE_big ⟨h,hg⟩ (fo_great h hg g)⟩,by repeat (first|exact Sub.none _|exact Sub.refl _|refine Sub.keep ?_|refine Sub.drop ?_),ElR_bot _,Ev.kM⟩
 ·repeat first|refine go ?_|with_reducible intro _
  refine Wk.storeD rfl rfl rfl rfl rfl Ev.uM rfl rfl ⟨?_,?_⟩
  ·exact Ev.pM2
  repeat first|refine go ?_|with_reducible intro _
  refine Wk.inv ⟨_,by omega,i+1,0,fo l els (i+1),_,_,_,_,_,_,hit,rfl,e8.trans hz9,.inl ⟨rfl,⟨h,hg⟩,rfl,g⟩,by repeat (first|exact Sub.none _|exact Sub.refl _|refine Sub.keep ?_|refine Sub.drop ?_),hj,Ev.kM⟩
end Go.Proofs.J
namespace Go.Proofs.J
open Go.Ev Go
end Go.Proofs.J
namespace Go.Ev
variable {M:Mach} {fn:FuncId} {rd:Option Nat} {n:Nat} {Q:PQ} {k:List KI} {L:Lo} {Z:Zone} {A:List SA}
theorem Wk.swapr {id:Nat} {ops:Array Oper} {ms p:List Nat} {x y:Nat} {a b:Tmp} {pl1 pl2:List Ro} (e1:masks ops=ms)
  (hn:planOK M.T ops ms (plan M.T ops ms) 0=false) (hs:swapOf M.T ops ms=some ⟨p,x,y,a,b⟩)
  (hp:(dstsOK n ops.toList&&namesOK ops ms&&ops.toList.all (fun o=>plainOp o.op))=true)
  (hp1:rosOf ops.toList ms (p++[x,y])=some pl1) (hp2:rosOf ops.toList ms (p++[y,x])=some pl2)
  (w2:Wk M fn rd n (fun _ _ _ _=>True) [.r ops true pl2 []] L Z A)
  (w1:Wk M fn rd n (fun _ L Z A=>(∃ va vb,lk L a=some va∧lk L b=some vb∧apartV va vb=true)∧Wk M fn rd n Q k L Z A) [.r ops true pl1 []] L Z A) :
  Wk M fn rd n Q (.c (.region id ops true)::k) L Z A:=by
 intro env H φ h1 h2 h3
 obtain ⟨q1,r1⟩:=rosOf_ok hp1
 obtain ⟨q2,r2⟩:=rosOf_ok hp2
 obtain ⟨m1,env1,H1,L1,Z1,A1,k1,s1,g1,z1,t1,⟨va,vb,ha,hb,hab⟩,hw⟩:=w1 ms q1 [] .nil env H φ h1 h2 h3
 obtain ⟨m2,env2,H2,L2,Z2,A2,k2,-⟩:=w2 ms q2 [] .nil env H φ h1 h2 h3
 refine ⟨Max.max m1 m2,.normal,env1,H1,L1,Z1,A1,?_,s1,g1,z1,t1,hw⟩
 simp only [if_true,r1] at k1
 simp only [if_true,r2] at k2
 have k1':=evalDraw_mono (M.le (Nat.le_max_left m1 m2)) k1
 have k2':=evalDraw_mono (M.le (Nat.le_max_right m1 m2)) k2
 rw [Array.all_toList] at hp
 have hab':apartV (env1.getD a undef) (env1.getD b undef)=true:=by rw [g1 a va ha,g1 b vb hb];exact hab
 simp only [evalCode,evalRegion,if_true,e1,hn,Bool.false_and,Bool.false_eq_true,if_false,evalSwap,hs,h1,hp,k1',k2',Option.bind_some,hab']
 rfl
end Go.Ev
namespace Go.Ev
variable {M:Mach} {fn:FuncId} {rd:Option Nat} {n:Nat} {Q:PQ} {k:List KI} {L:Lo} {Z:Zone} {A:List SA}
theorem Wk.apartr {ops:Array Oper} {dr:Bool} {pl:List Ro} {ps:List Pn} {b c sz mm:Nat} {v:Value} {vs:List Value} {o:AObj} {B C:List SA} (p:Rem A (olp b sz v mm vs) B) (q:Rem B (pt c o) C) (h:b≠c→Wk M fn rd n Q (.r ops dr pl ps::k) L Z A):Wk M fn rd n Q (.r ops dr pl ps::k) L Z A :=
 Wk.turnr fun env H φ h1 h2=>⟨L,Z,A,h1,Ext.refl _,h2,h (by
  obtain ⟨s,t,k1,k2,k3⟩:=h2.rem p
  obtain ⟨g,cc,xs,_,_,_,_,_,_,rfl⟩:=k1
  obtain ⟨s2,t2,j1,j2,j3⟩:=k2.rem q
  obtain rfl:s2=[(c,o)]:=j1
  rintro rfl
  have nd:=k3.nodup
  rw [List.singleton_append,List.map_cons,List.nodup_cons] at nd
  refine nd.1 ?_
  rw [List.map_append]
  refine List.mem_append_left _ ?_
  exact List.mem_map.2 ⟨(b,o),j3.mem_iff.2 (by simp),rfl⟩)⟩
end Go.Ev
namespace Go.Proofs.J
open Go.Ev Go
theorem setEnd {us:List Value} {j:Nat} {a b c e z1 z2 z3 z4:Value} (h:us.length=j*4):setCells (us++[z1,z2,z3,z4]) (j*4) [a,b,c,e]=some (us++[a,b,c,e]):=by
 unfold setCells
 rw [if_pos (by simp;omega),←h]
 simp
open Classical in
noncomputable def piecesR (l:Lat) (e:El):Int×List El:=if ElsE l [e]≠0 then (ElsE l [e],[]) else (0,piecesE l.1 4 l.2 e)
theorem elemPieces {Z:Zone} {cl ce:List Value} {l:Lat} {e:El} {dd:Nat} (hl:LatR Z cl l) (ht:l.Th) (he:ElR Z e ce) (fe:e.Fit dd) :
  Cz M (.func (.func 43) #[] #[]) [.agg ⟨cl⟩,.agg ⟨ce⟩] Z [] (fun v' Z' A'=>∃ v,v'=.tuple ⟨[v,.int .i64 (piecesR l e).1]⟩∧ElsR Z' v (piecesR l e).2∧A'=[]):=by
 classical
 have hl0:=hl
 have he0:=he
 obtain ⟨l1,l2,l3,l4,rfl,hT,hS⟩:=hl.form
 obtain ⟨q1,q2,q3,q4,ua,rfl,ak,as_,aL⟩:=he.form
 refine Cz.fn (f:=Tryz.f43) Ev.cM rfl rfl rfl _ rfl ?_
 repeat first|refine go ?_|with_reducible intro _
 rename_i b2 b3 b4
 refine Wk.bs (cs:=[.int .u8 e.kind,.int .i64 e.n,.slice q1 e.keys.length q2,.slice q3 e.kids.length q4]) rfl rfl rfl rfl rfl rfl rfl fun b9=>?_
 first|refine Wk.freezer Rem.head fun Z1 e1 h9=>?_|refine Wk.freeze Rem.head fun Z1 e1 h9=>?_
 repeat first|refine go ?_|with_reducible intro _
 refine Wk.call rfl rfl (Spl.none _) (open_E (hl0.mono e1) ht (ElsR_one (he0.mono e1) h9) (by simp) (Fit1 fe)) rfl rfl rfl ?_
 rintro v' Z' A' hz ⟨⟨cs,rfl,hcl,hL1⟩,rfl,rfl⟩
 have hL0:=hL1
 obtain ⟨m1,m2,m3,m4,rfl,_,_⟩:=hL1.form
 repeat first|refine go ?_|with_reducible intro _
 rename_i b6
 refine Wk.cond rfl (fun hc=>?_) (fun hc=>?_)
 ·have hne:ElsE l [e]≠0:=by simpa using hc
  have hj:piecesR l e=(ElsE l [e],[]):=by unfold piecesR;rw [if_pos hne]
  rw [hj]
  repeat first|refine go ?_|with_reducible intro _
  refine Wk.ret ⟨_,Rs.cell rfl rfl Ev.hM rfl rfl (Rs.tmp rfl Rs.nil),_,Sub.none _,_,rfl,⟨[],.inl ⟨rfl,rfl,rfl⟩,by simp [ElRL]⟩,rfl⟩
 have h0:ElsE l [e]=0:=by simpa using hc
 clear hc
 obtain ⟨h,hg⟩:=gd_ElsE ht h0
 have ge:=hg e (by simp)
 have hj:piecesR l e=(0,piecesE l.1 4 l.2 e):=by unfold piecesR;rw [if_neg (by simpa using h0)]
 rw [hj]
 apply Wk.freeze (b:=b2)
 case p=>repeat (first|exact Rem.head|apply Rem.tail)
 intro Z2 e2 h2
 apply Wk.freeze (b:=b3)
 case p=>repeat (first|exact Rem.head|apply Rem.tail)
 intro Z3 e3 h3
 apply Wk.freeze (b:=b6)
 case p=>repeat (first|exact Rem.head|apply Rem.tail)
 intro Z4 e4 h6
 replace h2:=e4 _ _ (e3 _ _ h2)
 replace h3:=e4 _ _ h3
 have e24:=(e2.trans e3).trans e4
 have e14:=e1.trans e24
 repeat first|refine go ?_|with_reducible intro _
 refine Wk.call rfl rfl (Spl.none _) (pieces_e h.T 4 rfl (hL0.mono e24) (hS.mono e14) (he0.mono e14) ge.1 ge.2 h.S) rfl rfl rfl ?_
 rintro v26 Z6 A6 hz6 ⟨hY,rfl⟩
 repeat first|refine go ?_|with_reducible intro _
 refine Wk.olNil 4 ?_
 refine rangeY (l:=piecesE l.1 4 l.2 e) (fun done Z' A'=>Ext Z6 Z'∧∃ vk us,A'=[ol 4 vk done.length us,pt b4 (.cells [vk] true 0)]∧ElRL Z' done us) (fun _ _ _=>rfl) rfl hY rfl (by simp) (fun done Z' Z'' A' hz ⟨h1,vk,us,h2,h3⟩=>⟨h1.trans hz,vk,us,h2,h3.mono hz⟩) ⟨Ext.refl _,_,_,rfl,by simp [ElRL]⟩ ?_ ?_
 ·rintro done x rest Z7 A7 cs q hsplit hz7 ⟨hz67,vk,us,rfl,hout⟩ hx
  have hx0:=hx
  obtain ⟨w1,w2,w3,w4,uw,rfl,_,_,_⟩:=hx.form
  have hlen:done.length < 4096000000:=by
   have:=pieces_len6 h.T (by omega:4≤6) ge.1 ge.2 h.S
   rw [hsplit] at this;simp at this;omega
  repeat first|refine go ?_|with_reducible intro _
  rename_i b7
  refine Wk.done ⟨rfl,_,.tail .head,?_⟩
  apply Wk.freeze (b:=b7)
  case p=>repeat (first|exact Rem.head|apply Rem.tail)
  intro Z70 e70 h7
  replace hz67:=hz67.trans e70
  replace hout:=hout.mono e70
  replace hx0:=hx0.mono e70
  have e7:=hz6.trans hz67
  have hus:us.length=done.length*4:=hout.length
  repeat first|refine go ?_|with_reducible intro _
  refine Wk.swapr (ms:=[0,0,1,0,15,31,63,31]) (p:=[0,1,2,3,4,5]) (x:=6) (y:=7) (a:=29) (b:=4) Ev.cM Ev.cM Ev.cM Ev.cM rfl rfl ?_ ?_
  ·repeat first|refine go ?_|with_reducible intro _
   refine Wk.bs (cs:=[.int .u8 0,.int .i64 0,.slice none 0 0,.slice none 0 0]) rfl rfl rfl rfl rfl rfl rfl fun b50=>?_
   refine Wk.appendD (kk:=1) (new:=[.int .u8 0,.int .i64 0,.slice none 0 0,.slice none 0 0]) rfl rfl rfl rfl rfl rfl rfl rfl Ev.rM (Src.lit Ev.hM rfl) rfl rfl rfl Ev.wM Ev.wM rfl rfl fun v51=>⟨?_,?_⟩
   ·exact Ev.pM2
   refine Wk.olOpenr (sz:=4) (v:=v51) Ev.rM Ev.wM fun bo=>?_
   refine Wk.knowr Ev.rM (fun s h=>olp.form (v:=v51) h) ?_
   rintro ⟨c51,rfl,-⟩
   refine Wk.iaOlp done.length Ev.rM rfl rfl rfl rfl rfl rfl rfl Ev.wM ?_
   refine Wk.store rfl rfl rfl rfl rfl Ev.uM rfl Ev.cM rfl ?_
   refine Wk.storeOlp (b:=bo) (vs:=us++[.int .u8 0,.int .i64 0,.slice none 0 0,.slice none 0 0]) rfl rfl rfl rfl rfl Ev.rM (setEnd hus) Ev.cM rfl ?_
   repeat first|refine go ?_|with_reducible intro _
   exact Wk.done trivial
  ·repeat first|refine go ?_|with_reducible intro _
   refine Wk.bs (cs:=[.int .u8 0,.int .i64 0,.slice none 0 0,.slice none 0 0]) rfl rfl rfl rfl rfl rfl rfl fun b50=>?_
   refine Wk.appendD (kk:=1) (new:=[.int .u8 0,.int .i64 0,.slice none 0 0,.slice none 0 0]) rfl rfl rfl rfl rfl rfl rfl rfl Ev.rM (Src.lit Ev.hM rfl) rfl rfl rfl Ev.wM Ev.wM rfl rfl fun v51=>⟨?_,?_⟩
   ·exact Ev.pM2
   refine Wk.olOpenr (sz:=4) (v:=v51) Ev.rM Ev.wM fun bo=>?_
   refine Wk.knowr Ev.rM (fun s h=>olp.form (v:=v51) h) ?_
   rintro ⟨c51,rfl,-⟩
   refine Wk.iaOlp done.length Ev.rM rfl rfl rfl rfl rfl rfl rfl Ev.wM ?_
   refine Wk.storeOlp (b:=bo) (vs:=us++[.int .u8 0,.int .i64 0,.slice none 0 0,.slice none 0 0]) rfl rfl rfl rfl rfl Ev.rM (setEnd hus) Ev.cM rfl ?_
   refine Wk.apartr (b:=bo) (c:=b4) Ev.rM Ev.rM fun hne=>?_
   refine Wk.olShutr Rem.head ?_
   refine Wk.dropr (.keep (.drop (Sub.refl _))) ?_
   refine Wk.store rfl rfl rfl rfl rfl Ev.uM rfl Ev.cM rfl ?_
   repeat first|refine go ?_|with_reducible intro _
   refine Wk.done ⟨⟨_,_,rfl,rfl,by simp [apartV,hne]⟩,?_⟩
   repeat first|refine go ?_|with_reducible intro _
   exact Wk.done ⟨rfl,_,.tail .head,hz67,.slice (some ⟨bo,0,none⟩) (done.length+1) c51,_,by simp only [List.length_append,List.length_cons,List.length_nil],ElRL.snoc hx0 hout⟩
 ·rintro Z7 A7 hz7 ⟨hz67,vk,us,rfl,hout⟩
  first|apply Wk.olFreezer (v:=vk)|apply Wk.olFreeze (v:=vk)
  case p=>repeat (first|exact Rem.head|apply Rem.tail)
  intro Z8 e8 s8
  obtain ⟨aP,cP,rfl⟩:=s8.form
  repeat first|refine go ?_|with_reducible intro _
  refine Wk.ret ⟨_,Rs.cell rfl rfl Ev.hM rfl rfl (Rs.tmp rfl Rs.nil),_,Sub.none _,_,rfl,⟨us,s8,hout.mono e8⟩,rfl⟩
end Go.Proofs.J
namespace Go.Proofs.J
open Go.Ev Go
end Go.Proofs.J
namespace Go.Proofs.J
open Go.Ev Go
theorem piecesR_fit {l:Lat} {e:El} (ht:l.Th):(piecesR l e).2.length≤2199023255552∧∀ i (h:i < (piecesR l e).2.length),((piecesR l e).2[i]).Fit 4:=by
 classical
 unfold piecesR
 split
 ·exact ⟨by simp,fun i h=>by simp at h⟩
 ·rename_i h
  have k:=gd_ElsE ht (Classical.not_not.1 h)
  have ge:=k.2 e (by simp)
  have L:=k.1.T.lat
  refine ⟨?_,fun i hi=>?_⟩
  ·have:=pieces_len6 k.1.T (by omega:4≤6) ge.1 ge.2 k.1.S
   show (piecesE l.1 4 l.2 e).length≤_
   omega
  ·have hp:(piecesE l.1 4 l.2 e)[i]∈piecesE l.1 4 l.2 e:=List.getElem_mem hi
   have wx:=(pieces_pc L ge.1 hp).w
   have lx:=(pieces_le L ge.1 ge.1).2 (LeE.refl L ge.1) _ hp
   exact Gd.fit k.1 ⟨wx,lx.small L wx ge.1 ge.2⟩
end Go.Proofs.J
namespace Go.Proofs.J
open Go.Ev Go
theorem Gd.piece {l:Lat} {e p:El} (h:LOk l) (g:Gd l e) (hp:p∈piecesE l.1 4 l.2 e):Gd l p∧piecesE l.1 4 l.2 p=[p]:=by
 have L:=h.T.lat
 have q:=pieces_pc L g.1 hp
 exact ⟨⟨q.w,q.le.small L q.w g.1 g.2⟩,q.self⟩
theorem piecesG {l:Lat} {e:El} (h:LOk l) (g:Gd l e):piecesR l e=(0,piecesE l.1 4 l.2 e):=by
 unfold piecesR
 rw [if_neg (by rw [ElsE_gd h (els:=[e]) (fun x hx=>by rw [List.mem_singleton.1 hx];exact g)];simp)]
theorem ElemPieces {Z:Zone} {cl ca cb:List Value} {l:Lat} {a b:El} {d:Nat} (hl:LatR Z cl l) (ha:ElR Z a ca) (hb:ElR Z b cb) (fa:a.Fit d) (fb:b.Fit d) :
  Cz M (.func (.func 12) #[] #[]) [.agg ⟨cl⟩,.agg ⟨ca⟩,.agg ⟨cb⟩] Z [] (fun v' Z' A'=>v'=.bool true):=by
 have hl0:=hl
 have ha0:=ha
 have hb0:=hb
 obtain ⟨l1,l2,l3,l4,rfl,hT,hS⟩:=hl.form
 obtain ⟨q1,q2,q3,q4,ua,rfl,ak,as_,aL⟩:=ha.form
 obtain ⟨r1,r2,r3,r4,ub,rfl,bk,bs_,bL⟩:=hb.form
 clear hl ha hb hT hS ak as_ aL bk bs_ bL
 refine Cz.fn (f:=Tryz.f12) Ev.cM rfl rfl rfl _ rfl ?_
 repeat first|refine go ?_|with_reducible intro _
 rename_i b3 b4 b5
 refine Wk.bs (cs:=[.int .u8 a.kind,.int .i64 a.n,.slice q1 a.keys.length q2,.slice q3 a.kids.length q4,.int .u8 b.kind,.int .i64 b.n,.slice r1 b.keys.length r2,.slice r3 b.kids.length r4]) rfl rfl rfl rfl rfl rfl rfl fun b9=>?_
 first|refine Wk.freezer Rem.head fun Z1 e1 h9=>?_|refine Wk.freeze Rem.head fun Z1 e1 h9=>?_
 replace hl0:=hl0.mono e1
 replace ha0:=ha0.mono e1
 replace hb0:=hb0.mono e1
 repeat first|refine go ?_|with_reducible intro _
 refine Wk.call rfl rfl (Spl.none _) (right_ hl0 (ElsR_two ha0 hb0 h9) (by simp) (Fit2 fa fb)) Ev.cM rfl rfl ?_
 rintro v' Z' A' hz ⟨⟨bb,rfl,hbb⟩,rfl,rfl⟩
 cases bb with
 | false =>
  repeat first|refine go ?_|with_reducible intro _
  refine Wk.call rfl rfl (Spl.none _) ((Cz.ora rfl)) rfl rfl rfl ?_
  rintro v' Z' A' hz ⟨rfl,rfl,rfl⟩
  repeat first|refine go ?_|with_reducible intro _
  exact Wk.ret ⟨_,Rs.tmp rfl Rs.nil,_,Sub.none _,rfl⟩
 | true =>
 obtain ⟨h,hg⟩:=hbb rfl
 have ga:=hg a (by simp)
 have gb:=hg b (by simp)
 clear hbb hg h9
 have L:=h.T.lat
 have hgp:∀ p∈piecesE l.1 4 l.2 a,Gd l p:=fun p hp=>(ga.piece h hp).1
 repeat first|refine go ?_|with_reducible intro _
 refine Wk.drawr (ms:=[0,1,0,7,15,31,63,63,127,511]) (l:=[0,2,1,3,4,5,6,7,8,9]) Ev.cM Ev.cM Ev.cM rfl ?_
 repeat first|refine go ?_|with_reducible intro _
 refine Wk.callD rfl rfl (Spl.none _) (copyLattice hl0 h.th) rfl rfl fun _ _ A' hz2 hq=>?_
 obtain ⟨c1,rfl,hL,rfl⟩:=hq
 refine ⟨?_,?_⟩
 ·exact Ev.pM2
 replace hl0:=hl0.mono hz2
 replace ha0:=ha0.mono hz2
 replace hb0:=hb0.mono hz2
 repeat first|refine go ?_|with_reducible intro _
 refine Wk.callD rfl rfl (Spl.none _) (copyEl 4 (ga.fit h) ha0) rfl rfl fun _ _ A' hz2 hq=>?_
 obtain ⟨c2,rfl,hA,rfl⟩:=hq
 refine ⟨?_,?_⟩
 ·exact Ev.pM2
 replace hL:=hL.mono hz2
 replace hl0:=hl0.mono hz2
 replace ha0:=ha0.mono hz2
 replace hb0:=hb0.mono hz2
 repeat first|refine go ?_|with_reducible intro _
 refine Wk.callD rfl rfl (Spl.none _) (elemPieces hL h.th hA (ga.fit h)) rfl rfl fun _ _ A' hz2 hq=>?_
 obtain ⟨vp,rfl,hP,rfl⟩:=hq
 refine ⟨?_,?_⟩
 ·exact Ev.pM2
 replace hl0:=hl0.mono hz2
 replace ha0:=ha0.mono hz2
 replace hb0:=hb0.mono hz2
 have hpf:=piecesR_fit (l:=l) (e:=a) h.th
 rw [piecesG h ga] at hP hpf ⊢
 replace hP:ElsR _ vp (piecesE l.1 4 l.2 a):=hP
 replace hpf:(piecesE l.1 4 l.2 a).length≤2199023255552∧∀ i (h:i < (piecesE l.1 4 l.2 a).length),((piecesE l.1 4 l.2 a)[i]).Fit 4:=hpf
 generalize hps:piecesE l.1 4 l.2 a=ps at hP hpf hgp ⊢
 obtain ⟨ap,cp,rfl⟩:=hP.form
 repeat first|refine go ?_|with_reducible intro _
 refine Wk.call rfl rfl (Spl.none _) (rCheckEls hl0 h.th hP hpf.1 hpf.2) Ev.cM rfl rfl ?_
 rintro v' Z' A' hz ⟨rfl,rfl,rfl⟩
 rw [ElsE_gd h hgp]
 repeat first|refine go ?_|with_reducible intro _
 refine Wk.call rfl rfl (Spl.none _) (copyLattice hl0 h.th) Ev.cM rfl rfl ?_
 rintro v2 Z3 A' hz3 ⟨c3,rfl,hL,rfl⟩
 replace hl0:=hl0.mono hz3
 replace ha0:=ha0.mono hz3
 replace hb0:=hb0.mono hz3
 replace hP:=hP.mono hz3
 repeat first|refine go ?_|with_reducible intro _
 refine Wk.call rfl rfl (Spl.none _) (copyEls hP hpf.1 hpf.2) Ev.cM rfl rfl ?_
 rintro vc Z2 A' hz2 ⟨hc,rfl⟩
 replace hl0:=hl0.mono hz2
 replace ha0:=ha0.mono hz2
 replace hb0:=hb0.mono hz2
 replace hP:=hP.mono hz2
 replace hL:=hL.mono hz2
 repeat first|refine go ?_|with_reducible intro _
 refine Wk.call rfl rfl (Spl.none _) (elemJoinAll hL h.th hc hpf.1 hpf.2) Ev.cM rfl rfl ?_
 rintro v3 Z4 A' hz4 ⟨c5,rfl,hj,rfl⟩
 replace hl0:=hl0.mono hz4
 replace ha0:=ha0.mono hz4
 replace hb0:=hb0.mono hz4
 replace hP:=hP.mono hz4
 have hfj:foldJ l.1 4 l.2 ps=a:=by rw [←hps];exact foldJ_pieces L ga.1
 rw [ElsE_small ⟨h,hgp⟩ (by rw [hfj];exact ga.2),hfj] at hj ⊢
 replace hj:ElR _ a c5:=hj
 obtain ⟨u1,u2,u3,u4,_,rfl,_,_,_⟩:=id hj.form
 repeat first|refine go ?_|with_reducible intro _
 refine Wk.call rfl rfl (Spl.none _) (sameEl _ (ga.fit h) hj ha0) Ev.cM rfl rfl ?_
 rintro v' Z' A' hz ⟨⟨sa,rfl,hsa⟩,rfl,rfl⟩
 obtain rfl:sa=true:=hsa.2 rfl
 clear hsa
 repeat first|refine go ?_|with_reducible intro _
 apply Wk.freeze (b:=b3)
 case p=>repeat (first|exact Rem.head|apply Rem.tail)
 intro Z5 e5 h3
 apply Wk.freeze (b:=b4)
 case p=>repeat (first|exact Rem.head|apply Rem.tail)
 intro Z6 e6 h4
 apply Wk.freeze (b:=b5)
 case p=>repeat (first|exact Rem.head|apply Rem.tail)
 intro Z7 e7 h5
 replace h3:=e7 _ _ (e6 _ _ h3)
 replace h4:=e7 _ _ h4
 have e57:=(e5.trans e6).trans e7
 replace hl0:=hl0.mono e57
 replace ha0:=ha0.mono e57
 replace hb0:=hb0.mono e57
 replace hP:=hP.mono e57
 obtain ⟨us,s0,hre⟩:=hP
 repeat first|refine go ?_|with_reducible intro _
 refine Wk.loop (fun w L' Z' A'=>∃ (i:Nat) (bb:Bool),i≤ps.length∧w=ps.length - i∧Ext Z7 Z'∧(bb=true↔∀ p∈ps.take i,LeE l.1 4 l.2 p b)∧Sub A' []∧Kp L' [(3,.pointer (some ⟨b3,0,none⟩)),(4,.pointer (some ⟨b4,0,none⟩)),(5,.pointer (some ⟨b5,0,none⟩)),(7,.slice ap ps.length cp),(11,.bool bb),(12,.int .i64 i)]) ps.length ⟨0,true,Nat.zero_le _,rfl,Ext.refl _,by simp,Sub.none _,Ev.kM⟩ ?_
 rintro w' L' Z8 A8 - ⟨i,bb,hi,rfl,e8,hbb,hsub,hkp⟩
 refine Wk.drop hsub ?_
 refine Wk.kp hkp ?_
 clear hkp hsub
 have h3':=e8 _ _ h3
 have h4':=e8 _ _ h4
 have h5':=e8 _ _ h5
 have s8:=s0.mono e8
 replace hl0:=hl0.mono e8
 replace ha0:=ha0.mono e8
 replace hb0:=hb0.mono e8
 repeat first|refine go ?_|with_reducible intro _
 refine Wk.cond rfl (fun hc=>?_) (fun hc=>?_)
 ·have hit:i < ps.length:=by simp at hc;omega
  clear hc
  obtain ⟨kp,np,xp1,mp1,yp1,xp2,mp2,yp2,gp,rp⟩:=hre.get i hit
  have rp8:=rp.mono e8
  have hm:ps[i]∈ps:=List.getElem_mem hit
  have gx:=hgp _ hm
  have hself:piecesE l.1 4 l.2 ps[i]=[ps[i]]:=(ga.piece h (by rw [hps];exact hm)).2
  have htk:=List.take_succ_eq_append_getElem hit
  repeat first|refine go ?_|with_reducible intro _
  refine Wk.drawr (ms:=[0,1,0,0,12,28,63,127,255,511,511,1023,4095]) (l:=[0,2,3,4,5,1,6,7,8,9,10,11,12]) Ev.cM Ev.cM Ev.cM rfl ?_
  repeat first|refine go ?_|with_reducible intro _
  refine Wk.callD rfl rfl (Spl.none _) (copyLattice hl0 h.th) rfl rfl fun _ _ A' hz2 hq=>?_
  obtain ⟨c6,rfl,hL,rfl⟩:=hq
  have h3'':=hz2 _ _ h3'
  have h4'':=hz2 _ _ h4'
  have h5'':=hz2 _ _ h5'
  have s9:=s8.mono hz2
  refine ⟨?_,?_⟩
  ·exact Ev.pM2
  replace hl0:=hl0.mono hz2
  replace ha0:=ha0.mono hz2
  replace hb0:=hb0.mono hz2
  replace e8:=e8.trans hz2
  replace rp8:=rp8.mono hz2
  clear h3' h4' h5' s8
  repeat first|refine go ?_|with_reducible intro _
  refine Wk.callD rfl rfl (Spl.none _) (copyEl 4 (gx.fit h) rp8) rfl rfl fun _ _ A' hz2 hq=>?_
  obtain ⟨c7,rfl,hX,rfl⟩:=hq
  have h3':=hz2 _ _ h3''
  have h4':=hz2 _ _ h4''
  have h5':=hz2 _ _ h5''
  have s8:=s9.mono hz2
  refine ⟨?_,?_⟩
  ·exact Ev.pM2
  replace hl0:=hl0.mono hz2
  replace ha0:=ha0.mono hz2
  replace hb0:=hb0.mono hz2
  replace e8:=e8.trans hz2
  replace rp8:=rp8.mono hz2
  replace hL:=hL.mono hz2
  repeat first|refine go ?_|with_reducible intro _
  refine Wk.callD rfl rfl (Spl.none _) (elemPieces hL h.th hX (gx.fit h)) rfl rfl fun _ _ A' hz2 hq=>?_
  obtain ⟨vq,rfl,hV,rfl⟩:=hq
  rw [piecesG h gx,hself] at hV ⊢
  replace hV:ElsR _ vq [ps[i]]:=hV
  obtain ⟨aq,cq,hvq⟩:=hV.form
  replace hvq:vq=.slice aq 1 cq:=hvq
  subst hvq
  obtain ⟨us1,s1,hre1⟩:=hV
  replace s1:Sl _ 4 (.slice aq 1 cq) 1 us1:=s1
  obtain ⟨ke,ne,xe1,me1,ye1,xe2,me2,ye2,g1,re1⟩:=hre1.get 0 (by simp)
  have h3'':=hz2 _ _ h3'
  have h4'':=hz2 _ _ h4'
  have h5'':=hz2 _ _ h5'
  have s9:=s8.mono hz2
  refine ⟨?_,?_⟩
  ·exact Ev.pM2
  replace hl0:=hl0.mono hz2
  replace ha0:=ha0.mono hz2
  replace hb0:=hb0.mono hz2
  replace e8:=e8.trans hz2
  replace rp8:=rp8.mono hz2
  repeat first|refine go ?_|with_reducible intro _
  have s10:=s1
  refine Wk.drawr (ms:=[0,1,3,7,15,31,63,127,255,511,1023,255,255,6399,14591,32767,65535,131071]) (l:=[0,1,2,3,4,5,6,7,8,9,10,11,12,13,14,15,16,17]) Ev.cM Ev.cM Ev.cM rfl ?_
  repeat first|refine go ?_|with_reducible intro _
  refine Wk.iaSl 0 s10 rfl rfl rfl rfl rfl rfl rfl Ev.wM g1 fun _ _ _=>?_
  repeat first|refine go ?_|with_reducible intro _
  refine Wk.callD rfl rfl (Spl.none _) (sameEl _ (gx.fit h) re1 rp8) rfl rfl fun _ _ A' hz2 hq=>?_
  obtain ⟨⟨sb,rfl,hsb⟩,rfl,rfl⟩:=hq
  obtain rfl:sb=true:=hsb.2 rfl
  clear hsb
  refine ⟨?_,?_⟩
  ·exact Ev.pM2
  repeat first|refine go ?_|with_reducible intro _
  refine Wk.drawr (ms:=[0,1,3,3,3,27,59,3,255,511,1023]) (l:=[0,1,2,3,4,5,6,7,8,9,10]) Ev.cM Ev.cM Ev.cM rfl ?_
  repeat first|refine go ?_|with_reducible intro _
  cases bb with
  | false =>
   repeat first|refine go ?_|with_reducible intro _
   refine Wk.inv ⟨_,by omega,i+1,false,hit,rfl,e8,?_,Sub.none _,Ev.kM⟩
   rw [hbb,htk]
   constructor
   ·intro k p hp
    exact absurd (hbb.2 k) (by simp)
   ·intro k p hp
    exact k p (List.mem_append_left _ hp)
  | true =>
   repeat first|refine go ?_|with_reducible intro _
   refine Wk.callD rfl rfl (Spl.none _) (belowL_ h hl0 rp8 hb0 gx gb) rfl rfl fun _ _ A' hz2 hq=>?_
   obtain ⟨⟨r,rfl,hr⟩,rfl⟩:=hq
   have h3':=hz2 _ _ h3''
   have h4':=hz2 _ _ h4''
   have h5':=hz2 _ _ h5''
   have s8:=s9.mono hz2
   refine ⟨?_,?_⟩
   ·exact Ev.pM2
   replace e8:=e8.trans hz2
   repeat first|refine go ?_|with_reducible intro _
   refine Wk.inv ⟨_,by omega,i+1,r,hit,rfl,e8,?_,Sub.none _,Ev.kM⟩
   have k0:=hbb.1 rfl
   rw [hr,htk]
   constructor
   ·intro q p hp
    rcases List.mem_append.1 hp with hp|hp
    ·exact k0 p hp
    ·rw [List.mem_singleton.1 hp];exact q
   ·intro k
    exact k _ (List.mem_append_right _ (by simp))
 ·have hin:i=ps.length:=by simp at hc;omega
  subst hin
  rw [List.take_length,←hps,pieces_le L ga.1 gb.1] at hbb
  repeat first|refine go ?_|with_reducible intro _
  refine Wk.call rfl rfl (Spl.none _) (belowL_ h hl0 ha0 hb0 ga gb) Ev.cM rfl rfl ?_
  rintro v' Z9 A' hz9 ⟨⟨r,rfl,hr⟩,rfl⟩
  obtain rfl:r=bb:=Bool.eq_iff_iff.2 (hr.trans hbb.symm)
  cases r with
  | false =>
   repeat first|refine go ?_|with_reducible intro _
   refine Wk.call rfl rfl (Spl.none _) ((Cz.ora rfl)) rfl rfl rfl ?_
   rintro v' Z' A' hz ⟨rfl,rfl,rfl⟩
   repeat first|refine go ?_|with_reducible intro _
   exact Wk.ret ⟨_,Rs.tmp rfl Rs.nil,_,Sub.none _,rfl⟩
  | true =>
   repeat first|refine go ?_|with_reducible intro _
   refine Wk.call rfl rfl (Spl.none _) ((Cz.ora rfl)) rfl rfl rfl ?_
   rintro v' Z' A' hz ⟨rfl,rfl,rfl⟩
   repeat first|refine go ?_|with_reducible intro _
   exact Wk.ret ⟨_,Rs.tmp rfl Rs.nil,_,Sub.none _,rfl⟩
end Go.Proofs.J
namespace Go.Proofs.J
open Go Go.Ev
theorem pieces_law (Z:Zone) (xs:List Value) (h:All2 (fun a t=>WtV Tryz.prog Z t a) xs [27,31,31]):Cz M (.func (.func 12) #[] #[]) xs Z [] (fun v _ _=>v=.bool true):=by
 cases h with
 | cons h1 h =>
  cases h with
  | cons h2 h =>
   cases h with
   | cons h3 h =>
    cases h
    obtain ⟨c1,l,rfl,r1⟩:=wtv_lat h1
    obtain ⟨c2,e2,d2,rfl,r2,i2⟩:=wtv_elem h2
    obtain ⟨c3,e3,d3,rfl,r3,i3⟩:=wtv_elem h3
    exact ElemPieces r1 r2 r3 (El.Fit.le i2 (Nat.le_max_left d2 d3)) (El.Fit.le i3 (Nat.le_max_right d2 d3))
end Go.Proofs.J
