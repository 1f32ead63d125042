/- XX1 -/
import Derived.Test.YtlmmgebealakkaaGreatDoorEvF
import Derived.Test.YtlmmgebealakkaaGreatDoorXX
set_option linter.unusedVariables false
set_option linter.unusedSimpArgs false
set_option maxHeartbeats 4000000
set_option maxRecDepth 100000
namespace Go.Proofs.J
open Go.Ev Go
def Gd (l:Lat) (e:El):Prop:=IsW l.1 4 l.2 e∧¬ e.Great
noncomputable abbrev jo (l:Lat) (a b:El):El:=joinE l.1 4 l.2 a b
structure LOk (l:Lat):Prop where
 th:l.Th
 ok:CSE l.1 l.2=0
theorem LOk.T {l:Lat} (h:LOk l):TsOk l.1:=(CSE_ok h.th h.ok).1
theorem ElsE_gd {l:Lat} {els:List El} (h:LOk l) (k:∀ e∈els,Gd l e):ElsE l els=0:=by
 unfold ElsE
 rw [if_neg (by rw [h.ok];simp),if_pos]
 intro i hi
 exact IsE_iff.2 (k _ (List.getElem_mem hi))
theorem gd_ElsE {l:Lat} {els:List El} (ht:l.Th) (h:ElsE l els=0):LOk l∧∀ e∈els,Gd l e:=⟨⟨ht,(ElsE_zero h).1⟩,(ElsE_zero h).2⟩
theorem Gd.fit {l:Lat} {e:El} (h:LOk l) (k:Gd l e):e.Fit 4:=k.1.fit h.T.ok k.2
theorem Gd.bot {l:Lat}:Gd l El.bot:=⟨IsW.bot,bot_not_great⟩
theorem Gd.jo {l:Lat} {a b:El} (h:LOk l) (ha:Gd l a) (hb:Gd l b) (g:¬ (jo l a b).Great):Gd l (jo l a b):=⟨(joinE_W h.T.lat ha.1 hb.1).1,g⟩
theorem gd2 {l:Lat} {a b:El} (h:LOk l) (ha:Gd l a) (hb:Gd l b):ElsE l [a,b]=0:=ElsE_gd h fun e he=>by
 rcases List.mem_cons.1 he with rfl|he
 ·exact ha
 ·rw [List.mem_singleton.1 he];exact hb
open Classical in
theorem joR {l:Lat} {a b:El} (h:LOk l) (ha:Gd l a) (hb:Gd l b):joinR l a b=if (jo l a b).Great then (5,El.bot) else (0,jo l a b):=by
 unfold joinR
 rw [if_neg (by rw [gd2 h ha hb];simp)]
theorem right_ {Z:Zone} {cl:List Value} {ve:Value} {l:Lat} {els:List El} {d:Nat} (hl:LatR Z cl l) (he:ElsR Z ve els) (hn:els.length≤2199023255552) (hd:∀ i (h:i < els.length),(els[i]).Fit d) :
  Cz M (.func (.func 34) #[] #[]) [.agg ⟨cl⟩,ve] Z [] (fun v' Z' A'=>(∃ b,v'=.bool b∧(b=true→LOk l∧∀ e∈els,Gd l e))∧Z=Z'∧A'=[]):=by
 have hl0:=hl
 have he0:=he
 obtain ⟨l1,l2,l3,l4,rfl,hT,hS⟩:=hl.form
 obtain ⟨ae,ce,rfl⟩:=he.form
 refine Cz.fn (f:=Tryz.f34) Ev.cM rfl rfl rfl _ rfl ?_
 repeat first|refine go ?_|with_reducible intro _
 rename_i b2
 refine Wk.call rfl rfl (Spl.none _) (thinLatE hl0 he0 hn hd) Ev.cM rfl rfl ?_
 rintro v' Z' A' hz ⟨⟨b,rfl,hb⟩,rfl,rfl⟩
 cases b with
 | false =>
  repeat first|refine go ?_|with_reducible intro _
  refine Wk.ret ⟨_,Rs.tmp rfl Rs.nil,_,Sub.none _,⟨false,rfl,fun h=>by cases h⟩,rfl,rfl⟩
 | true =>
 have ht:=hb rfl
 repeat first|refine go ?_|with_reducible intro _
 refine Wk.call rfl rfl (Spl.none _) (rCheckEls hl0 ht he0 hn hd) Ev.cM rfl rfl ?_
 rintro v' Z' A' hz ⟨rfl,rfl,rfl⟩
 repeat first|refine go ?_|with_reducible intro _
 refine Wk.ret ⟨_,Rs.tmp rfl Rs.nil,_,Sub.none _,⟨_,rfl,fun h=>gd_ElsE ht (by simpa using h)⟩,rfl,rfl⟩
theorem joinL_ {Z:Zone} {cl ca cb:List Value} {l:Lat} {a b:El} (h:LOk l) (hl:LatR Z cl l) (ha:ElR Z a ca) (hb:ElR Z b cb) (ga:Gd l a) (gb:Gd l b) :
  Cz M (.func (.func 35) #[] #[]) [.agg ⟨cl⟩,.agg ⟨ca⟩,.agg ⟨cb⟩] Z [] (fun v' Z' A'=>(∃ (r:Bool) (cs:List Value) (e:El),v'=.tuple ⟨[.agg ⟨cs⟩,.bool r,.bool true]⟩∧ElR Z' e cs∧(r=true↔¬ (jo l a b).Great)∧(r=true→e=jo l a b)∧(r=false→e=El.bot))∧A'=[]):=by
 have hl0:=hl
 have ha0:=ha
 have hb0:=hb
 have fa:=ga.fit h
 have fb:=gb.fit h
 classical
 have hjr:=joR h ga gb
 obtain ⟨l1,l2,l3,l4,rfl,hT,hS⟩:=hl.form
 obtain ⟨q1,q2,q3,q4,ua,rfl,ak,as_,aL⟩:=ha.form
 obtain ⟨r1,r2,r3,r4,ub,rfl,bk,bs_,bL⟩:=hb.form
 refine Cz.fn (f:=Tryz.f35) Ev.cM rfl rfl rfl _ rfl ?_
 repeat first|refine go ?_|with_reducible intro _
 rename_i b3 b4 b5 b6
 refine Wk.drawr (ms:=[0,1,0,7,0,31,63,127,255,255,511,2047]) (l:=[0,2,4,1,3,5,6,7,8,9,10,11]) Ev.cM Ev.cM Ev.cM rfl ?_
 repeat first|refine go ?_|with_reducible intro _
 refine Wk.callD rfl rfl (Spl.none _) (copyLattice hl0 h.th) rfl rfl fun v1 Z2 A' hz2 hq=>?_
 obtain ⟨c1,rfl,hL2,rfl⟩:=hq
 refine ⟨?_,?_⟩
 ·exact Ev.pM2
 repeat first|refine go ?_|with_reducible intro _
 refine Wk.callD rfl rfl (Spl.none _) (copyEl 4 fa (ha0.mono hz2)) rfl rfl fun v1 Z3 A' hz3 hq=>?_
 obtain ⟨c2,rfl,hA2,rfl⟩:=hq
 refine ⟨?_,?_⟩
 ·exact Ev.pM2
 repeat first|refine go ?_|with_reducible intro _
 refine Wk.callD rfl rfl (Spl.none _) (copyEl 4 fb (hb0.mono (hz2.trans hz3))) rfl rfl fun v1 Z4 A' hz4 hq=>?_
 obtain ⟨c3,rfl,hB2,rfl⟩:=hq
 refine ⟨?_,?_⟩
 ·exact Ev.pM2
 repeat first|refine go ?_|with_reducible intro _
 refine Wk.callD rfl rfl (Spl.none _) (elemJoin (hL2.mono (hz3.trans hz4)) h.th (hA2.mono hz4) hB2 fa fb) rfl rfl fun v1 Z5 A' hz5 hq=>?_
 obtain ⟨cj,rfl,hj,rfl⟩:=hq
 refine ⟨?_,?_⟩
 ·exact Ev.pM2
 have e2:=hz2.trans (hz3.trans (hz4.trans hz5))
 rw [hjr] at hj ⊢
 by_cases g:(jo l a b).Great
 ·rw [if_pos g] at hj ⊢
  replace hj:ElR Z5 El.bot cj:=hj
  obtain ⟨x1,x2,x3,x4,_,rfl,_,_,_⟩:=hj.form
  repeat first|refine go ?_|with_reducible intro _
  refine Wk.store rfl rfl rfl rfl rfl Ev.uM rfl Ev.cM rfl ?_
  repeat first|refine go ?_|with_reducible intro _
  refine Wk.drawr (ms:=[0,0,2,0,8,24,56,56,184,504,1016,2040,4088,8184,16376,32760,65528,131064,262136,524280,262137,1310719,4194303]) (l:=[0,1,2,3,4,5,6,7,8,9,10,11,12,13,14,15,16,17,18,19,20,21,22]) Ev.cM Ev.cM Ev.cM rfl ?_
  repeat first|refine go ?_|with_reducible intro _
  refine Wk.callD rfl rfl (Spl.none _) (rIsBottom hj) rfl rfl fun v1 Z7 A' hz7 hq=>?_
  obtain ⟨⟨r,rfl,hr⟩,rfl,rfl⟩:=hq
  refine ⟨?_,?_⟩
  ·exact Ev.pM2
  obtain rfl:r=true:=hr.2 (El.Bot_iff.2 rfl)
  repeat first|refine go ?_|with_reducible intro _
  refine Wk.storeD rfl rfl rfl rfl rfl Ev.uM rfl rfl ⟨?_,?_⟩
  ·exact Ev.pM2
  repeat first|refine go ?_|with_reducible intro _
  refine Wk.ret ⟨_,Rs.cell rfl rfl Ev.hM rfl rfl (Rs.tmp rfl (Rs.tmp rfl Rs.nil)),_,Sub.none _,⟨false,_,El.bot,rfl,hj,by simp [g],(fun q=>by cases q),(fun _=>rfl)⟩,rfl⟩
 ·rw [if_neg g] at hj ⊢
  replace hj:ElR Z5 (jo l a b) cj:=hj
  have gj:=ga.jo h gb g
  obtain ⟨x1,x2,x3,x4,_,rfl,_,_,_⟩:=hj.form
  repeat first|refine go ?_|with_reducible intro _
  refine Wk.store rfl rfl rfl rfl rfl Ev.uM rfl Ev.cM rfl ?_
  repeat first|refine go ?_|with_reducible intro _
  refine Wk.drawr (ms:=[0,0,2,0,8,24,56,56,184,504,1016,2040,4088,8184,16376,32760,65528,131064,262136,524280,262137,1310719,4194303]) (l:=[0,1,2,3,4,5,6,7,8,9,10,11,12,13,14,15,16,17,18,19,20,21,22]) Ev.cM Ev.cM Ev.cM rfl ?_
  repeat first|refine go ?_|with_reducible intro _
  refine Wk.bs (cs:=[.int .u8 _,.int .i64 _,.slice x1 _ x2,.slice x3 _ x4]) rfl rfl rfl rfl rfl rfl rfl fun b40=>?_
  first|refine Wk.freezer Rem.head fun Z6 e6 h40=>?_|refine Wk.freeze Rem.head fun Z6 e6 h40=>?_
  repeat first|refine go ?_|with_reducible intro _
  refine Wk.callD rfl rfl (Spl.none _) (rCheckEls (hl0.mono (e2.trans e6)) h.th (ElsR_one (hj.mono e6) h40) (by simp) (Fit1 (gj.fit h))) rfl rfl fun v1 Z7 A' hz7 hq=>?_
  obtain ⟨rfl,rfl,rfl⟩:=hq
  refine ⟨?_,?_⟩
  ·exact Ev.pM2
  rw [ElsE_gd h (els:=[jo l a b]) (fun e he=>by rw [List.mem_singleton.1 he];exact gj)]
  repeat first|refine go ?_|with_reducible intro _
  refine Wk.storeD rfl rfl rfl rfl rfl Ev.uM rfl rfl ⟨?_,?_⟩
  ·exact Ev.pM2
  repeat first|refine go ?_|with_reducible intro _
  refine Wk.ret ⟨_,Rs.cell rfl rfl Ev.hM rfl rfl (Rs.tmp rfl (Rs.tmp rfl Rs.nil)),_,Sub.none _,⟨true,_,jo l a b,rfl,hj.mono e6,by simp [g],(fun _=>rfl),(fun q=>by cases q)⟩,rfl⟩
theorem belowL_ {Z:Zone} {cl ca cb:List Value} {l:Lat} {a b:El} (h:LOk l) (hl:LatR Z cl l) (ha:ElR Z a ca) (hb:ElR Z b cb) (ga:Gd l a) (gb:Gd l b) :
  Cz M (.func (.func 36) #[] #[]) [.agg ⟨cl⟩,.agg ⟨ca⟩,.agg ⟨cb⟩] Z [] (fun v' Z' A'=>Bis v' (LeE l.1 4 l.2 a b)∧A'=[]):=by
 have hl0:=hl
 have ha0:=ha
 have hb0:=hb
 have fa:=ga.fit h
 have fb:=gb.fit h
 obtain ⟨l1,l2,l3,l4,rfl,hT,hS⟩:=hl.form
 obtain ⟨q1,q2,q3,q4,ua,rfl,ak,as_,aL⟩:=ha.form
 obtain ⟨r1,r2,r3,r4,ub,rfl,bk,bs_,bL⟩:=hb.form
 refine Cz.fn (f:=Tryz.f36) Ev.cM rfl rfl rfl _ rfl ?_
 repeat first|refine go ?_|with_reducible intro _
 rename_i b3 b4 b5
 refine Wk.drawr (ms:=[0,1,0,7,0,31,63,127,255,255,511,2047]) (l:=[0,2,4,1,3,5,6,7,8,9,10,11]) Ev.cM Ev.cM Ev.cM rfl ?_
 repeat first|refine go ?_|with_reducible intro _
 refine Wk.callD rfl rfl (Spl.none _) (copyLattice hl0 h.th) rfl rfl fun v1 Z2 A' hz2 hq=>?_
 obtain ⟨c1,rfl,hL2,rfl⟩:=hq
 refine ⟨?_,?_⟩
 ·exact Ev.pM2
 repeat first|refine go ?_|with_reducible intro _
 refine Wk.callD rfl rfl (Spl.none _) (copyEl 4 fa (ha0.mono hz2)) rfl rfl fun v1 Z3 A' hz3 hq=>?_
 obtain ⟨c2,rfl,hA2,rfl⟩:=hq
 refine ⟨?_,?_⟩
 ·exact Ev.pM2
 repeat first|refine go ?_|with_reducible intro _
 refine Wk.callD rfl rfl (Spl.none _) (copyEl 4 fb (hb0.mono (hz2.trans hz3))) rfl rfl fun v1 Z4 A' hz4 hq=>?_
 obtain ⟨c3,rfl,hB2,rfl⟩:=hq
 refine ⟨?_,?_⟩
 ·exact Ev.pM2
 repeat first|refine go ?_|with_reducible intro _
 refine Wk.callD rfl rfl (Spl.none _) (elemBelow (hL2.mono (hz3.trans hz4)) h.th (hA2.mono hz4) hB2 fa fb) rfl rfl fun v1 Z5 A' hz5 hq=>?_
 obtain ⟨⟨r,rfl,hr⟩,rfl,rfl⟩:=hq
 refine ⟨?_,?_⟩
 ·exact Ev.pM2
 rw [gd2 h ga gb] at hr ⊢
 repeat first|refine go ?_|with_reducible intro _
 refine Wk.ret ⟨_,Rs.tmp rfl Rs.nil,_,Sub.none _,⟨r,rfl,by rw [hr];simp⟩,rfl⟩
end Go.Proofs.J
namespace Go.Proofs.J
open Go.Ev Go
theorem ElsR_three {Z:Zone} {b:Nat} {x y z:El} {cx cy cz:List Value} (hx:ElR Z x cx) (hy:ElR Z y cy) (hz:ElR Z z cz) (hb:Z b=some (.cells (cx++(cy++cz)) true 0)):ElsR Z (.slice (some ⟨b,0,none⟩) 3 3) [x,y,z]:=by
 have hL:=ElRL.snoc hz (ElRL.snoc hy (ElRL.snoc hx (l:=[]) (us:=[]) (by simp [ElRL])))
 have hl:=hL.length
 refine ⟨_,.inr ⟨b,0,3,_,_,_,rfl,Nat.le_refl _,hb,?_,.inl rfl⟩,hL⟩
 unfold getCells
 simp only [List.nil_append,List.length_append,List.length_cons,List.length_nil] at hl
 rw [if_pos (by simp;omega)]
 rw [List.drop_zero,List.take_of_length_le (by simp;omega)]
 simp
theorem Fit3 {x y z:El} {d:Nat} (fx:x.Fit d) (fy:y.Fit d) (fz:z.Fit d):∀ i (h:i < [x,y,z].length),([x,y,z][i]).Fit d:=by
 intro i h
 rcases (by simp at h;omega:i=0∨i=1∨i=2) with rfl|rfl|rfl
 ·exact fx
 ·exact fy
 ·exact fz
end Go.Proofs.J
namespace Go.Proofs.J
open Go Go.Ev
theorem len12 {l:List Value} (h:l.length=12):∃ a b c:List Value,a.length=4∧b.length=4∧c.length=4∧l=a++(b++c)∧(l.drop 0).take 4=a∧(l.drop 4).take 4=b∧(l.drop 8).take 4=c:=by
 refine ⟨l.take 4,(l.drop 4).take 4,(l.drop 8).take 4,by simp;omega,by simp;omega,by simp;omega,?_,rfl,rfl,rfl⟩
 have h1:(l.drop 8).take 4=l.drop 8:=List.take_of_length_le (by simp;omega)
 have h2:(l.drop 4).take 4++l.drop 8=l.drop 4:=by
  have:=List.take_append_drop 4 (l.drop 4)
  rw [List.drop_drop] at this
  exact this
 rw [h1,h2,List.take_append_drop]
theorem wtv_three {Z:Zone} {v:Value} (h:WtV Tryz.prog Z 50 v):∃ ca cb cd a b c d,v=.agg ⟨ca++(cb++cd)⟩∧ElR Z a ca∧ElR Z b cb∧ElR Z c cd∧a.In d∧b.In d∧c.In d:=by
 obtain ⟨⟨d,w⟩,s⟩:=h
 rw [Tryz.underlying50] at s
 obtain ⟨⟨cs⟩,rfl⟩:=s
 cases d with
 | zero=>exact w.elim
 | succ d =>
  simp only [Wt,Tryz.underlying50,show Tryz.prog.cellsOf 50=12 by kernel_rfl] at w
  obtain ⟨hlen,hf⟩:=w
  obtain ⟨x,y,z,hx,hy,hz,e,e1,e2,e3⟩:=len12 hlen
  have f0:=hf _ (List.Mem.head _)
  have f1:=hf _ (List.Mem.tail _ (List.Mem.head _))
  have f2:=hf _ (List.Mem.tail _ (List.Mem.tail _ (List.Mem.head _)))
  simp only [kEl,e1,e2,e3] at f0 f1 f2
  obtain ⟨a,ha,ia⟩:=wt_elem d f0
  obtain ⟨b,hb,ib⟩:=wt_elem d f1
  obtain ⟨c,hc,ic⟩:=wt_elem d f2
  exact ⟨x,y,z,a,b,c,d,by rw [show cs=x++(y++z) from e],ha,hb,hc,ia,ib,ic⟩
end Go.Proofs.J
