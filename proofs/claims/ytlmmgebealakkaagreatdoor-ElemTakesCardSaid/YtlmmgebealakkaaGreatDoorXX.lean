/- XX -/
import Derived.Test.YtlmmgebealakkaaGreatDoorHU
import Derived.Test.YtlmmgebealakkaaGreatDoorHK
import Derived.Test.YtlmmgebealakkaaGreatDoorWT
import Derived.Test.YtlmmgebealakkaaGreatDoorEvF
set_option linter.unusedVariables false
set_option linter.unusedSimpArgs false
set_option maxHeartbeats 4000000
set_option maxRecDepth 100000
namespace Go.Proofs.J
open Go.Ev Go
end Go.Proofs.J
namespace Go.Proofs.J
open Go.Ev Go
theorem ElsR_one {Z:Zone} {b:Nat} {a:El} {ca:List Value} (ha:ElR Z a ca) (hb:Z b=some (.cells ca true 0)):ElsR Z (.slice (some ⟨b,0,none⟩) 1 1) [a]:=by
 have hL:=ElRL.snoc ha (l:=[]) (us:=[]) (by simp [ElRL])
 have hl:=hL.length
 refine ⟨_,.inr ⟨b,0,1,_,_,_,rfl,Nat.le_refl _,hb,?_,.inl rfl⟩,hL⟩
 unfold getCells
 simp only [List.nil_append,List.length_append,List.length_cons,List.length_nil] at hl
 rw [if_pos (by simp;omega)]
 rw [List.drop_zero,List.take_of_length_le (by simp;omega)]
 simp
theorem Fit1 {a:El} {d:Nat} (fa:a.Fit d):∀ i (h:i < [a].length),([a][i]).Fit d:=by
 intro i h
 have:i=0:=by simpa using h
 subst this
 exact fa
end Go.Proofs.J
namespace Go.Proofs.J
open Go.Ev Go
end Go.Proofs.J
namespace Go.Proofs.J
open Go.Ev Go
end Go.Proofs.J
namespace Go.Proofs.J
open Go.Ev Go
theorem bot_fit (d:Nat):El.bot.Fit (d+1):=by
 refine ⟨by simp [El.bot,El.levels,elLevelsL],?_⟩
 simp [El.Sm,El.bot,El.keys,El.kids,El.n,El.kind]
end Go.Proofs.J
namespace Go.Proofs.J
open Go.Ev Go
def Gd (l:Lat) (e:El):Prop:=IsW l.1 4 l.2 e∧¬ e.Great
structure LOk (l:Lat):Prop where
 th:l.Th
 ok:CSE l.1 l.2=0
theorem LOk.T {l:Lat} (h:LOk l):TsOk l.1:=(CSE_ok h.th h.ok).1
theorem LOk.S {l:Lat} (h:LOk l):l.2.Ok:=(CSE_ok h.th h.ok).2
theorem gd_ElsE {l:Lat} {els:List El} (ht:l.Th) (h:ElsE l els=0):LOk l∧∀ e∈els,Gd l e:=⟨⟨ht,(ElsE_zero h).1⟩,(ElsE_zero h).2⟩
theorem Gd.fit {l:Lat} {e:El} (h:LOk l) (k:Gd l e):e.Fit 4:=k.1.fit h.T.ok k.2
end Go.Proofs.J
namespace Go.Proofs.J
open Go.Ev Go
end Go.Proofs.J
namespace Go.Proofs.J
open Go.Ev Go
end Go.Proofs.J
namespace Go.Proofs.J
open Go.Ev Go
theorem Gd.delta {l:Lat} {a b:El} (h:LOk l) (ga:Gd l a) (gb:Gd l b):Gd l (deltaE l.1 4 l.2 a b):=by
 have L:=h.T.lat
 have w:=delta_W L (a:=a) gb.1
 exact ⟨w,(delta_le L gb.1).small L w gb.1 gb.2⟩
end Go.Proofs.J
namespace Go.Proofs.J
open Go.Ev Go
noncomputable def fo (l:Lat) (els:List El) (i:Nat):El:=foldJ l.1 4 l.2 (els.take i)
end Go.Proofs.J
namespace Go.Proofs.J
open Go.Ev Go
end Go.Proofs.J
namespace Go.Proofs.J
open Go.Ev Go
end Go.Proofs.J
namespace Go.Proofs.J
open Go.Ev Go
end Go.Proofs.J
namespace Go.Proofs.J
open Go Go.Ev
theorem wtv_elem {Z:Zone} {v:Value} (h:WtV Tryz.prog Z 31 v):∃ cs e d,v=.agg ⟨cs⟩∧ElR Z e cs∧e.In d:=by
 obtain ⟨⟨d,w⟩,s⟩:=h
 rw [Tryz.underlying31] at s
 obtain ⟨⟨cs⟩,rfl⟩:=s
 obtain ⟨e,he,hi⟩:=wt_elem d w
 exact ⟨cs,e,d,rfl,he,hi⟩
end Go.Proofs.J
namespace Go.Proofs.J
open Go Go.Ev
theorem wtv_lat {Z:Zone} {v:Value} (h:WtV Tryz.prog Z 27 v):∃ cs l,v=.agg ⟨cs⟩∧LatR Z cs l:=by
 obtain ⟨⟨d,w⟩,s⟩:=h
 rw [Tryz.underlying27] at s
 obtain ⟨⟨cs⟩,rfl⟩:=s
 obtain ⟨l,hl⟩:=wt_lattice w
 exact ⟨cs,l,rfl,hl⟩
end Go.Proofs.J
namespace Go.Proofs.J
open Go Go.Ev
theorem El.Fit.le {d d':Nat} {e:El} (h:e.In d) (k:d≤d'):e.Fit d':=(h.le k).fit
end Go.Proofs.J
namespace Go.Proofs.J
open Go.Ev Go
end Go.Proofs.J
namespace Go.Ev
variable {M:Mach} {fn:FuncId} {rd:Option Nat} {n:Nat} {Q:PQ} {k:List KI} {L:Lo} {Z:Zone} {A:List SA}
theorem Wk.swapr {id:Nat} {ops:Array Oper} {ms p:List Nat} {x y:Nat} {a b:Tmp} {pl1 pl2:List Ro} (e1:masks ops=ms)
  (hn:planOK M.T ops ms (plan M.T ops ms) 0=false) (hs:swapOf M.T ops ms=some ⟨p,x,y,a,b⟩)
  (hp:(dstsOK n ops.toList&&namesOK ops ms&&ops.toList.all (fun o=>plainOp o.op))=true)
  (hp1:rosOf ops.toList ms (p++[x,y])=some pl1) (hp2:rosOf ops.toList ms (p++[y,x])=some pl2)
  (w2:Wk M fn rd n (fun _ _ _ _=>True) [.r ops true pl2 []] L Z A)
  (w1:Wk M fn rd n (fun _ L Z A=>(∃ va vb,lk L a=some va∧lk L b=some vb∧apartV va vb=true)∧Wk M fn rd n Q k L Z A) [.r ops true pl1 []] L Z A) :
  Wk M fn rd n Q (.c (.region id ops true)::k) L Z A:=by
 intro env H φ h1 h2 h3
 obtain ⟨q1,r1⟩:=rosOf_ok hp1
 obtain ⟨q2,r2⟩:=rosOf_ok hp2
 obtain ⟨m1,env1,H1,L1,Z1,A1,k1,s1,g1,z1,t1,⟨va,vb,ha,hb,hab⟩,hw⟩:=w1 ms q1 [] .nil env H φ h1 h2 h3
 obtain ⟨m2,env2,H2,L2,Z2,A2,k2,-⟩:=w2 ms q2 [] .nil env H φ h1 h2 h3
 refine ⟨Max.max m1 m2,.normal,env1,H1,L1,Z1,A1,?_,s1,g1,z1,t1,hw⟩
 simp only [if_true,r1] at k1
 simp only [if_true,r2] at k2
 have k1':=evalDraw_mono (M.le (Nat.le_max_left m1 m2)) k1
 have k2':=evalDraw_mono (M.le (Nat.le_max_right m1 m2)) k2
 rw [Array.all_toList] at hp
 have hab':apartV (env1.getD a undef) (env1.getD b undef)=true:=by rw [g1 a va ha,g1 b vb hb];exact hab
 simp only [evalCode,evalRegion,if_true,e1,hn,Bool.false_and,Bool.false_eq_true,if_false,evalSwap,hs,h1,hp,k1',k2',Option.bind_some,hab']
 rfl
end Go.Ev
namespace Go.Ev
variable {M:Mach} {fn:FuncId} {rd:Option Nat} {n:Nat} {Q:PQ} {k:List KI} {L:Lo} {Z:Zone} {A:List SA}
theorem Wk.apartr {ops:Array Oper} {dr:Bool} {pl:List Ro} {ps:List Pn} {b c sz mm:Nat} {v:Value} {vs:List Value} {o:AObj} {B C:List SA} (p:Rem A (olp b sz v mm vs) B) (q:Rem B (pt c o) C) (h:b≠c→Wk M fn rd n Q (.r ops dr pl ps::k) L Z A):Wk M fn rd n Q (.r ops dr pl ps::k) L Z A :=
 Wk.turnr fun env H φ h1 h2=>⟨L,Z,A,h1,Ext.refl _,h2,h (by
  obtain ⟨s,t,k1,k2,k3⟩:=h2.rem p
  obtain ⟨g,cc,xs,_,_,_,_,_,_,rfl⟩:=k1
  obtain ⟨s2,t2,j1,j2,j3⟩:=k2.rem q
  obtain rfl:s2=[(c,o)]:=j1
  rintro rfl
  have nd:=k3.nodup
  rw [List.singleton_append,List.map_cons,List.nodup_cons] at nd
  refine nd.1 ?_
  rw [List.map_append]
  refine List.mem_append_left _ ?_
  exact List.mem_map.2 ⟨(b,o),j3.mem_iff.2 (by simp),rfl⟩)⟩
end Go.Ev
namespace Go.Proofs.J
open Go.Ev Go
theorem setEnd {us:List Value} {j:Nat} {a b c e z1 z2 z3 z4:Value} (h:us.length=j*4):setCells (us++[z1,z2,z3,z4]) (j*4) [a,b,c,e]=some (us++[a,b,c,e]):=by
 unfold setCells
 rw [if_pos (by simp;omega),←h]
 simp
open Classical in
noncomputable def piecesR (l:Lat) (e:El):Int×List El:=if ElsE l [e]≠0 then (ElsE l [e],[]) else (0,piecesE l.1 4 l.2 e)
theorem elemPieces {Z:Zone} {cl ce:List Value} {l:Lat} {e:El} {dd:Nat} (hl:LatR Z cl l) (ht:l.Th) (he:ElR Z e ce) (fe:e.Fit dd) :
  Cz M (.func (.func 43) #[] #[]) [.agg ⟨cl⟩,.agg ⟨ce⟩] Z [] (fun v' Z' A'=>∃ v,v'=.tuple ⟨[v,.int .i64 (piecesR l e).1]⟩∧ElsR Z' v (piecesR l e).2∧A'=[]):=by
 classical
 have hl0:=hl
 have he0:=he
 obtain ⟨l1,l2,l3,l4,rfl,hT,hS⟩:=hl.form
 obtain ⟨q1,q2,q3,q4,ua,rfl,ak,as_,aL⟩:=he.form
 refine Cz.fn (f:=Tryz.f43) Ev.cM rfl rfl rfl _ rfl ?_
 repeat first|refine go ?_|with_reducible intro _
 rename_i b2 b3 b4
 refine Wk.bs (cs:=[.int .u8 e.kind,.int .i64 e.n,.slice q1 e.keys.length q2,.slice q3 e.kids.length q4]) rfl rfl rfl rfl rfl rfl rfl fun b9=>?_
 first|refine Wk.freezer Rem.head fun Z1 e1 h9=>?_|refine Wk.freeze Rem.head fun Z1 e1 h9=>?_
 refine Ev.gT ?_
 refine Wk.call rfl rfl (Spl.none _) (open_E (hl0.mono e1) ht (ElsR_one (he0.mono e1) h9) (by simp) (Fit1 fe)) rfl rfl rfl ?_
 rintro v' Z' A' hz ⟨⟨cs,rfl,hcl,hL1⟩,rfl,rfl⟩
 have hL0:=hL1
 obtain ⟨m1,m2,m3,m4,rfl,_,_⟩:=hL1.form
 repeat first|refine go ?_|with_reducible intro _
 rename_i b6
 refine Wk.cond rfl (fun hc=>?_) (fun hc=>?_)
 ·have hne:ElsE l [e]≠0:=by simpa using hc
  have hj:piecesR l e=(ElsE l [e],[]):=by unfold piecesR;rw [if_pos hne]
  rw [hj]
  refine Ev.gT ?_
  refine Wk.ret ⟨_,Rs.cell rfl rfl Ev.hM rfl rfl (Rs.tmp rfl Rs.nil),_,Sub.none _,_,rfl,⟨[],.inl ⟨rfl,rfl,rfl⟩,by simp [ElRL]⟩,rfl⟩
 have h0:ElsE l [e]=0:=by simpa using hc
 clear hc
 obtain ⟨h,hg⟩:=gd_ElsE ht h0
 have ge:=hg e (by simp)
 have hj:piecesR l e=(0,piecesE l.1 4 l.2 e):=by unfold piecesR;rw [if_neg (by simpa using h0)]
 rw [hj]
 apply Wk.freeze (b:=b2)
 case p=>repeat (first|exact Rem.head|apply Rem.tail)
 intro Z2 e2 h2
 apply Wk.freeze (b:=b3)
 case p=>repeat (first|exact Rem.head|apply Rem.tail)
 intro Z3 e3 h3
 apply Wk.freeze (b:=b6)
 case p=>repeat (first|exact Rem.head|apply Rem.tail)
 intro Z4 e4 h6
 replace h2:=e4 _ _ (e3 _ _ h2)
 replace h3:=e4 _ _ h3
 have e24:=(e2.trans e3).trans e4
 have e14:=e1.trans e24
 refine Ev.gT ?_
 refine Wk.call rfl rfl (Spl.none _) (pieces_e h.T 4 rfl (hL0.mono e24) (hS.mono e14) (he0.mono e14) ge.1 ge.2 h.S) rfl rfl rfl ?_
 rintro v26 Z6 A6 hz6 ⟨hY,rfl⟩
 refine Ev.gT ?_
 refine Wk.olNil 4 ?_
 refine rangeY (l:=piecesE l.1 4 l.2 e) (fun done Z' A'=>Ext Z6 Z'∧∃ vk us,A'=[ol 4 vk done.length us,pt b4 (.cells [vk] true 0)]∧ElRL Z' done us) (fun _ _ _=>rfl) rfl hY rfl (by simp) (fun done Z' Z'' A' hz ⟨h1,vk,us,h2,h3⟩=>⟨h1.trans hz,vk,us,h2,h3.mono hz⟩) ⟨Ext.refl _,_,_,rfl,by simp [ElRL]⟩ ?_ ?_
 ·rintro done x rest Z7 A7 cs q hsplit hz7 ⟨hz67,vk,us,rfl,hout⟩ hx
  have hx0:=hx
  obtain ⟨w1,w2,w3,w4,uw,rfl,_,_,_⟩:=hx.form
  have hlen:done.length < 4096000000:=by
   have:=pieces_len6 h.T (by omega:4≤6) ge.1 ge.2 h.S
   rw [hsplit] at this;simp at this;omega
  repeat first|refine go ?_|with_reducible intro _
  rename_i b7
  refine Wk.done ⟨rfl,_,.tail .head,?_⟩
  apply Wk.freeze (b:=b7)
  case p=>repeat (first|exact Rem.head|apply Rem.tail)
  intro Z70 e70 h7
  replace hz67:=hz67.trans e70
  replace hout:=hout.mono e70
  replace hx0:=hx0.mono e70
  have e7:=hz6.trans hz67
  have hus:us.length=done.length*4:=hout.length
  refine Ev.gT ?_
  refine Wk.swapr (ms:=[0,0,1,0,15,31,63,31]) (p:=[0,1,2,3,4,5]) (x:=6) (y:=7) (a:=29) (b:=4) Ev.cM Ev.cM Ev.cM Ev.cM rfl rfl ?_ ?_
  ·refine Ev.gT ?_
   refine Wk.bs (cs:=[.int .u8 0,.int .i64 0,.slice none 0 0,.slice none 0 0]) rfl rfl rfl rfl rfl rfl rfl fun b50=>?_
   refine Wk.appendD (kk:=1) (new:=[.int .u8 0,.int .i64 0,.slice none 0 0,.slice none 0 0]) rfl rfl rfl rfl rfl rfl rfl rfl Ev.rM (Src.lit Ev.hM rfl) rfl rfl rfl Ev.wM Ev.wM rfl rfl fun v51=>⟨?_,?_⟩
   ·exact Ev.pM2
   refine Wk.olOpenr (sz:=4) (v:=v51) Ev.rM Ev.wM fun bo=>?_
   refine Wk.knowr Ev.rM (fun s h=>olp.form (v:=v51) h) ?_
   rintro ⟨c51,rfl,-⟩
   refine Wk.iaOlp done.length Ev.rM rfl rfl rfl rfl rfl rfl rfl Ev.wM ?_
   refine Wk.store rfl rfl rfl rfl rfl Ev.uM rfl Ev.cM rfl ?_
   refine Wk.storeOlp (b:=bo) (vs:=us++[.int .u8 0,.int .i64 0,.slice none 0 0,.slice none 0 0]) rfl rfl rfl rfl rfl Ev.rM (setEnd hus) Ev.cM rfl ?_
   refine Ev.gT ?_
   exact Wk.done trivial
  ·refine Ev.gT ?_
   refine Wk.bs (cs:=[.int .u8 0,.int .i64 0,.slice none 0 0,.slice none 0 0]) rfl rfl rfl rfl rfl rfl rfl fun b50=>?_
   refine Wk.appendD (kk:=1) (new:=[.int .u8 0,.int .i64 0,.slice none 0 0,.slice none 0 0]) rfl rfl rfl rfl rfl rfl rfl rfl Ev.rM (Src.lit Ev.hM rfl) rfl rfl rfl Ev.wM Ev.wM rfl rfl fun v51=>⟨?_,?_⟩
   ·exact Ev.pM2
   refine Wk.olOpenr (sz:=4) (v:=v51) Ev.rM Ev.wM fun bo=>?_
   refine Wk.knowr Ev.rM (fun s h=>olp.form (v:=v51) h) ?_
   rintro ⟨c51,rfl,-⟩
   refine Wk.iaOlp done.length Ev.rM rfl rfl rfl rfl rfl rfl rfl Ev.wM ?_
   refine Wk.storeOlp (b:=bo) (vs:=us++[.int .u8 0,.int .i64 0,.slice none 0 0,.slice none 0 0]) rfl rfl rfl rfl rfl Ev.rM (setEnd hus) Ev.cM rfl ?_
   refine Wk.apartr (b:=bo) (c:=b4) Ev.rM Ev.rM fun hne=>?_
   refine Wk.olShutr Rem.head ?_
   refine Wk.dropr (.keep (.drop (Sub.refl _))) ?_
   refine Wk.store rfl rfl rfl rfl rfl Ev.uM rfl Ev.cM rfl ?_
   refine Ev.gT ?_
   refine Wk.done ⟨⟨_,_,rfl,rfl,by simp [apartV,hne]⟩,?_⟩
   refine Ev.gT ?_
   exact Wk.done ⟨rfl,_,.tail .head,hz67,.slice (some ⟨bo,0,none⟩) (done.length+1) c51,_,by simp only [List.length_append,List.length_cons,List.length_nil],ElRL.snoc hx0 hout⟩
 ·rintro Z7 A7 hz7 ⟨hz67,vk,us,rfl,hout⟩
  first|apply Wk.olFreezer (v:=vk)|apply Wk.olFreeze (v:=vk)
  case p=>repeat (first|exact Rem.head|apply Rem.tail)
  intro Z8 e8 s8
  obtain ⟨aP,cP,rfl⟩:=s8.form
  refine Ev.gT ?_
  refine Wk.ret ⟨_,Rs.cell rfl rfl Ev.hM rfl rfl (Rs.tmp rfl Rs.nil),_,Sub.none _,_,rfl,⟨us,s8,hout.mono e8⟩,rfl⟩
end Go.Proofs.J
namespace Go.Proofs.J
open Go.Ev Go
theorem rPieces {Z:Zone} {cl ce:List Value} {l:Lat} {e:El} {dd:Nat} (hl:LatR Z cl l) (ht:l.Th) (he:ElR Z e ce) (fe:e.Fit dd) :
  Cz M (.func (.func 44) #[] #[]) [.agg ⟨cl⟩,.agg ⟨ce⟩] Z [] (fun v' Z' A'=>∃ v,v'=.tuple ⟨[v,.int .i64 (piecesR l e).1]⟩∧ElsR Z' v (piecesR l e).2∧A'=[]):=by
 classical
 have hl0:=hl
 have he0:=he
 obtain ⟨l1,l2,l3,l4,rfl,hT,hS⟩:=hl.form
 obtain ⟨q1,q2,q3,q4,ua,rfl,ak,as_,aL⟩:=he.form
 refine Cz.fn (f:=Tryz.f44) Ev.cM rfl rfl rfl _ rfl ?_
 repeat first|refine go ?_|with_reducible intro _
 refine Wk.bs (cs:=[.int .u8 e.kind,.int .i64 e.n,.slice q1 e.keys.length q2,.slice q3 e.kids.length q4]) rfl rfl rfl rfl rfl rfl rfl fun b9=>?_
 first|refine Wk.freezer Rem.head fun Z1 e1 h9=>?_|refine Wk.freeze Rem.head fun Z1 e1 h9=>?_
 refine Ev.gT ?_
 refine Wk.call rfl rfl (Spl.none _) (rCheckEls (hl0.mono e1) ht (ElsR_one (he0.mono e1) h9) (by simp) (Fit1 fe)) rfl rfl rfl ?_
 rintro v' Z' A' hz ⟨rfl,rfl,rfl⟩
 refine Ev.gT ?_
 refine Wk.cond rfl (fun hc=>?_) (fun hc=>?_)
 ·have hne:ElsE l [e]≠0:=by simpa using hc
  have hj:piecesR l e=(ElsE l [e],[]):=by unfold piecesR;rw [if_pos hne]
  rw [hj]
  refine Ev.gT ?_
  refine Wk.ret ⟨_,Rs.tmp rfl (Rs.tmp rfl Rs.nil),_,Sub.none _,_,rfl,⟨[],.inl ⟨rfl,rfl,rfl⟩,by simp [ElRL]⟩,rfl⟩
 have h0:ElsE l [e]=0:=by simpa using hc
 clear hc
 obtain ⟨h,hg⟩:=gd_ElsE ht h0
 have ge:=hg e (by simp)
 have hj:piecesR l e=(0,piecesE l.1 4 l.2 e):=by unfold piecesR;rw [if_neg (by simpa using h0)]
 rw [hj]
 refine Ev.gT ?_
 refine Wk.call rfl rfl (Spl.none _) (piecesOf_e h.T 4 Ev.wM (hT.mono e1) (hS.mono e1) (he0.mono e1) ge.1 ge.2 h.S) rfl rfl rfl ?_
 rintro v10 Z6 A6 hz6 ⟨up,hup,rfl⟩
 first|apply Wk.olFreezer (v:=v10)|apply Wk.olFreeze (v:=v10)
 case p=>repeat (first|exact Rem.head|apply Rem.tail)
 intro Z7 e7 s7
 refine Ev.gT ?_
 refine Wk.ret ⟨_,Rs.tmp rfl (Rs.tmp rfl Rs.nil),_,Sub.none _,_,rfl,⟨up,s7,hup.mono e7⟩,rfl⟩
end Go.Proofs.J
namespace Go.Proofs.J
open Go.Ev Go
theorem piecesR_fit {l:Lat} {e:El} (ht:l.Th):(piecesR l e).2.length≤2199023255552∧∀ i (h:i < (piecesR l e).2.length),((piecesR l e).2[i]).Fit 4:=by
 classical
 unfold piecesR
 split
 ·exact ⟨by simp,fun i h=>by simp at h⟩
 ·rename_i h
  have k:=gd_ElsE ht (Classical.not_not.1 h)
  have ge:=k.2 e (by simp)
  have L:=k.1.T.lat
  refine ⟨?_,fun i hi=>?_⟩
  ·have:=pieces_len6 k.1.T (by omega:4≤6) ge.1 ge.2 k.1.S
   show (piecesE l.1 4 l.2 e).length≤_
   omega
  ·have hp:(piecesE l.1 4 l.2 e)[i]∈piecesE l.1 4 l.2 e:=List.getElem_mem hi
   have wx:=(pieces_pc L ge.1 hp).w
   have lx:=(pieces_le L ge.1 ge.1).2 (LeE.refl L ge.1) _ hp
   exact Gd.fit k.1 ⟨wx,lx.small L wx ge.1 ge.2⟩
theorem deltaR_fit {l:Lat} {a b:El} (ht:l.Th):(deltaR l a b).2.Fit 4:=by
 classical
 unfold deltaR
 split
 ·exact bot_fit _
 ·rename_i h
  have k:=gd_ElsE ht (Classical.not_not.1 h)
  exact (Gd.delta k.1 (k.2 a (by simp)) (k.2 b (by simp))).fit k.1
theorem ElemTakes {Z:Zone} {cl ca cb:List Value} {l:Lat} {a b:El} {d:Nat} (hl:LatR Z cl l) (ha:ElR Z a ca) (hb:ElR Z b cb) (fa:a.Fit d) (fb:b.Fit d) :
  Cz M (.func (.func 10) #[] #[]) [.agg ⟨cl⟩,.agg ⟨ca⟩,.agg ⟨cb⟩] Z [] (fun v' Z' A'=>v'=.bool true):=by
 have hl0:=hl
 have ha0:=ha
 have hb0:=hb
 obtain ⟨l1,l2,l3,l4,rfl,hT,hS⟩:=hl.form
 obtain ⟨q1,q2,q3,q4,ua,rfl,ak,as_,aL⟩:=ha.form
 obtain ⟨r1,r2,r3,r4,ub,rfl,bk,bs_,bL⟩:=hb.form
 clear hl ha hb hT hS ak as_ aL bk bs_ bL
 refine Cz.fn (f:=Tryz.f10) Ev.cM rfl rfl rfl _ rfl ?_
 repeat first|refine go ?_|with_reducible intro _
 refine Wk.bs (cs:=[.int .u8 a.kind,.int .i64 a.n,.slice q1 a.keys.length q2,.slice q3 a.kids.length q4,.int .u8 b.kind,.int .i64 b.n,.slice r1 b.keys.length r2,.slice r3 b.kids.length r4]) rfl rfl rfl rfl rfl rfl rfl fun b9=>?_
 first|refine Wk.freezer Rem.head fun Z1 e1 h9=>?_|refine Wk.freeze Rem.head fun Z1 e1 h9=>?_
 replace hl0:=hl0.mono e1
 replace ha0:=ha0.mono e1
 replace hb0:=hb0.mono e1
 refine Ev.gT ?_
 refine Wk.call rfl rfl (Spl.none _) (thinLatE hl0 (ElsR_two ha0 hb0 h9) (by simp) (Fit2 fa fb)) Ev.cM rfl rfl ?_
 rintro v' Z' A' hz ⟨⟨bb,rfl,hbb⟩,rfl,rfl⟩
 cases bb with
 | false =>
  refine Ev.gT ?_
  refine Wk.call rfl rfl (Spl.none _) ((Cz.ora rfl)) rfl rfl rfl ?_
  rintro v' Z' A' hz ⟨rfl,rfl,rfl⟩
  refine Ev.gT ?_
  exact Wk.ret ⟨_,Rs.tmp rfl Rs.nil,_,Sub.none _,rfl⟩
 | true =>
 have h:=hbb rfl
 clear hbb h9
 refine Ev.gT ?_
 refine Wk.drawr (ms:=[0,1,0,7,0,0,63,127]) (l:=[0,2,4,5,1,3,6,7]) Ev.cM Ev.cM Ev.cM rfl ?_
 repeat first|refine go ?_|with_reducible intro _
 refine Wk.callD rfl rfl (Spl.none _) (copyEl d fa ha0) rfl rfl fun _ _ A' hz2 hq=>?_
 obtain ⟨c1,rfl,hA,rfl⟩:=hq
 obtain ⟨s1,s2,s3,s4,_,rfl,_,_,_⟩:=id hA.form
 refine ⟨?_,?_⟩
 ·exact Ev.pM2
 replace hl0:=hl0.mono hz2
 replace ha0:=ha0.mono hz2
 replace hb0:=hb0.mono hz2
 refine Ev.gT ?_
 refine Wk.callD rfl rfl (Spl.none _) (copyEl d fb hb0) rfl rfl fun _ _ A' hz2 hq=>?_
 obtain ⟨c2,rfl,hB,rfl⟩:=hq
 obtain ⟨t1,t2,t3,t4,_,rfl,_,_,_⟩:=id hB.form
 refine ⟨?_,?_⟩
 ·exact Ev.pM2
 replace hA:=hA.mono hz2
 replace hl0:=hl0.mono hz2
 replace ha0:=ha0.mono hz2
 replace hb0:=hb0.mono hz2
 refine Ev.gT ?_
 refine Wk.storeD rfl rfl rfl rfl rfl Ev.uM rfl rfl ⟨?_,?_⟩
 ·exact Ev.pM2
 refine Ev.gT ?_
 refine Wk.storeD rfl rfl rfl rfl rfl Ev.uM rfl rfl ⟨?_,?_⟩
 ·exact Ev.pM2
 refine Ev.gT ?_
 refine Wk.drawr (ms:=[0,1,0,7,15,31,31,63,255]) (l:=[0,2,1,3,4,5,6,7,8]) Ev.cM Ev.cM Ev.cM rfl ?_
 refine Ev.gT ?_
 refine Wk.callD rfl rfl (Spl.none _) (copyLattice hl0 h) rfl rfl fun _ _ A' hz2 hq=>?_
 obtain ⟨c3,rfl,hL,rfl⟩:=hq
 refine ⟨?_,?_⟩
 ·exact Ev.pM2
 replace hA:=hA.mono hz2
 replace hB:=hB.mono hz2
 replace hl0:=hl0.mono hz2
 replace ha0:=ha0.mono hz2
 replace hb0:=hb0.mono hz2
 refine Ev.gT ?_
 refine Wk.callD rfl rfl (Spl.none _) (elemPieces hL h hB fb) rfl rfl fun _ _ A' hz2 hq=>?_
 obtain ⟨vp,rfl,hP,rfl⟩:=hq
 refine ⟨?_,?_⟩
 ·exact Ev.pM2
 replace hA:=hA.mono hz2
 replace hB:=hB.mono hz2
 replace hl0:=hl0.mono hz2
 replace ha0:=ha0.mono hz2
 replace hb0:=hb0.mono hz2
 refine Ev.gT ?_
 refine Wk.drawr (ms:=[0,1,0,0,15,31,63,63,0,383,1023]) (l:=[0,2,3,8,1,4,5,6,7,9,10]) Ev.cM Ev.cM Ev.cM rfl ?_
 repeat first|refine go ?_|with_reducible intro _
 refine Wk.callD rfl rfl (Spl.none _) (copyLattice hl0 h) rfl rfl fun _ _ A' hz2 hq=>?_
 obtain ⟨c4,rfl,hL,rfl⟩:=hq
 refine ⟨?_,?_⟩
 ·exact Ev.pM2
 replace hA:=hA.mono hz2
 replace hB:=hB.mono hz2
 replace hP:=hP.mono hz2
 replace hl0:=hl0.mono hz2
 replace ha0:=ha0.mono hz2
 replace hb0:=hb0.mono hz2
 refine Ev.gT ?_
 refine Wk.callD rfl rfl (Spl.none _) (elemDelta hL h hA hB fa fb) rfl rfl fun _ _ A' hz2 hq=>?_
 obtain ⟨c5,rfl,hD,rfl⟩:=hq
 obtain ⟨u1,u2,u3,u4,_,rfl,_,_,_⟩:=id hD.form
 refine ⟨?_,?_⟩
 ·exact Ev.pM2
 replace hA:=hA.mono hz2
 replace hB:=hB.mono hz2
 replace hP:=hP.mono hz2
 replace hl0:=hl0.mono hz2
 replace ha0:=ha0.mono hz2
 replace hb0:=hb0.mono hz2
 refine Ev.gT ?_
 refine Wk.store rfl rfl rfl rfl rfl Ev.uM rfl Ev.cM rfl ?_
 refine Ev.gT ?_
 refine Wk.call rfl rfl (Spl.none _) (rPieces hl0 h hb0 fb) Ev.cM rfl rfl ?_
 rintro v' Z' A' hz2 ⟨vr,rfl,hR,rfl⟩
 replace hA:=hA.mono hz2
 replace hB:=hB.mono hz2
 replace hP:=hP.mono hz2
 replace hD:=hD.mono hz2
 replace hl0:=hl0.mono hz2
 replace ha0:=ha0.mono hz2
 replace hb0:=hb0.mono hz2
 refine Ev.gT ?_
 refine Wk.call rfl rfl (Spl.none _) (rElemDelta hl0 h ha0 hb0 fa fb) Ev.cM rfl rfl ?_
 rintro v' Z' A' hz2 ⟨c6,rfl,hE,rfl⟩
 obtain ⟨w1,w2,w3,w4,_,rfl,_,_,_⟩:=id hE.form
 replace hA:=hA.mono hz2
 replace hB:=hB.mono hz2
 replace hP:=hP.mono hz2
 replace hD:=hD.mono hz2
 replace hR:=hR.mono hz2
 replace hl0:=hl0.mono hz2
 replace ha0:=ha0.mono hz2
 replace hb0:=hb0.mono hz2
 have hpf:=piecesR_fit (l:=l) (e:=b) h
 repeat first|refine go ?_|with_reducible intro _
 refine Wk.call rfl rfl (Spl.none _) (sameEls hP hR hpf.1 hpf.2) Ev.cM rfl rfl ?_
 rintro v' Z' A' hz ⟨⟨sa,rfl,hsa⟩,rfl,rfl⟩
 obtain rfl:sa=true:=hsa.2 rfl
 refine Ev.gT ?_
 refine Wk.caser 64 rfl (fun hq=>?_) (fun hq=>absurd hq (by simp))
 clear hq
 refine Ev.gT ?_
 refine Wk.call rfl rfl (Spl.none _) (sameEl _ (deltaR_fit h) hD hE) Ev.cM rfl rfl ?_
 rintro v' Z' A' hz ⟨⟨sb,rfl,hsb⟩,rfl,rfl⟩
 obtain rfl:sb=true:=hsb.2 rfl
 refine Ev.gT ?_
 refine Wk.caser 74 rfl (fun hq=>?_) (fun hq=>absurd hq (by simp))
 clear hq
 refine Ev.gT ?_
 refine Wk.call rfl rfl (Spl.none _) (sameEl _ fa hA ha0) Ev.cM rfl rfl ?_
 rintro v' Z' A' hz ⟨⟨sc,rfl,hsc⟩,rfl,rfl⟩
 obtain rfl:sc=true:=hsc.2 rfl
 refine Ev.gT ?_
 refine Wk.call rfl rfl (Spl.none _) (sameEl _ fb hB hb0) Ev.cM rfl rfl ?_
 rintro v' Z' A' hz ⟨⟨sd,rfl,hsd⟩,rfl,rfl⟩
 obtain rfl:sd=true:=hsd.2 rfl
 refine Ev.gT ?_
 refine Wk.call rfl rfl (Spl.none _) ((Cz.ora rfl)) rfl rfl rfl ?_
 rintro v' Z' A' hz ⟨rfl,rfl,rfl⟩
 refine Ev.gT ?_
 exact Wk.ret ⟨_,Rs.tmp rfl Rs.nil,_,Sub.none _,rfl⟩
end Go.Proofs.J
namespace Go.Proofs.J
open Go Go.Ev
theorem takes_law (Z:Zone) (xs:List Value) (h:All2 (fun a t=>WtV Tryz.prog Z t a) xs [27,31,31]):Cz M (.func (.func 10) #[] #[]) xs Z [] (fun v _ _=>v=.bool true):=by
 cases h with
 | cons h1 h =>
  cases h with
  | cons h2 h =>
   cases h with
   | cons h3 h =>
    cases h
    obtain ⟨c1,l,rfl,r1⟩:=wtv_lat h1
    obtain ⟨c2,e2,d2,rfl,r2,i2⟩:=wtv_elem h2
    obtain ⟨c3,e3,d3,rfl,r3,i3⟩:=wtv_elem h3
    exact ElemTakes r1 r2 r3 (El.Fit.le i2 (Nat.le_max_left d2 d3)) (El.Fit.le i3 (Nat.le_max_right d2 d3))
end Go.Proofs.J
