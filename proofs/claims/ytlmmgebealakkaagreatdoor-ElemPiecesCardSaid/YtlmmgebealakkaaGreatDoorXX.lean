/- XX -/
import Derived.Test.YtlmmgebealakkaaGreatDoorHU
import Derived.Test.YtlmmgebealakkaaGreatDoorHK
import Derived.Test.YtlmmgebealakkaaGreatDoorWT
import Derived.Test.YtlmmgebealakkaaGreatDoorEvF
set_option linter.unusedVariables false
set_option linter.unusedSimpArgs false
set_option maxHeartbeats 4000000
set_option maxRecDepth 100000
namespace Go.Proofs.J
open Go.Ev Go
end Go.Proofs.J
namespace Go.Proofs.J
open Go.Ev Go
theorem ElsR_one {Z:Zone} {b:Nat} {a:El} {ca:List Value} (ha:ElR Z a ca) (hb:Z b=some (.cells ca true 0)):ElsR Z (.slice (some ⟨b,0,none⟩) 1 1) [a]:=by
 have hL:=ElRL.snoc ha (l:=[]) (us:=[]) (by simp [ElRL])
 have hl:=hL.length
 refine ⟨_,.inr ⟨b,0,1,_,_,_,rfl,Nat.le_refl _,hb,?_,.inl rfl⟩,hL⟩
 unfold getCells
 simp only [List.nil_append,List.length_append,List.length_cons,List.length_nil] at hl
 rw [if_pos (by simp;omega)]
 rw [List.drop_zero,List.take_of_length_le (by simp;omega)]
 simp
theorem Fit1 {a:El} {d:Nat} (fa:a.Fit d):∀ i (h:i < [a].length),([a][i]).Fit d:=by
 intro i h
 have:i=0:=by simpa using h
 subst this
 exact fa
end Go.Proofs.J
namespace Go.Proofs.J
open Go.Ev Go
end Go.Proofs.J
namespace Go.Proofs.J
open Go.Ev Go
end Go.Proofs.J
namespace Go.Proofs.J
open Go.Ev Go
end Go.Proofs.J
namespace Go.Proofs.J
open Go.Ev Go
def Gd (l:Lat) (e:El):Prop:=IsW l.1 4 l.2 e∧¬ e.Great
noncomputable abbrev jo (l:Lat) (a b:El):El:=joinE l.1 4 l.2 a b
structure LOk (l:Lat):Prop where
 th:l.Th
 ok:CSE l.1 l.2=0
theorem LOk.T {l:Lat} (h:LOk l):TsOk l.1:=(CSE_ok h.th h.ok).1
theorem LOk.S {l:Lat} (h:LOk l):l.2.Ok:=(CSE_ok h.th h.ok).2
theorem ElsE_gd {l:Lat} {els:List El} (h:LOk l) (k:∀ e∈els,Gd l e):ElsE l els=0:=by
 unfold ElsE
 rw [if_neg (by rw [h.ok];simp),if_pos]
 intro i hi
 exact IsE_iff.2 (k _ (List.getElem_mem hi))
theorem gd_ElsE {l:Lat} {els:List El} (ht:l.Th) (h:ElsE l els=0):LOk l∧∀ e∈els,Gd l e:=⟨⟨ht,(ElsE_zero h).1⟩,(ElsE_zero h).2⟩
theorem Gd.fit {l:Lat} {e:El} (h:LOk l) (k:Gd l e):e.Fit 4:=k.1.fit h.T.ok k.2
theorem Gd.bot {l:Lat}:Gd l El.bot:=⟨IsW.bot,bot_not_great⟩
theorem Gd.jo {l:Lat} {a b:El} (h:LOk l) (ha:Gd l a) (hb:Gd l b) (g:¬ (jo l a b).Great):Gd l (jo l a b):=⟨(joinE_W h.T.lat ha.1 hb.1).1,g⟩
theorem gd2 {l:Lat} {a b:El} (h:LOk l) (ha:Gd l a) (hb:Gd l b):ElsE l [a,b]=0:=ElsE_gd h fun e he=>by
 rcases List.mem_cons.1 he with rfl|he
 ·exact ha
 ·rw [List.mem_singleton.1 he];exact hb
open Classical in
theorem joR {l:Lat} {a b:El} (h:LOk l) (ha:Gd l a) (hb:Gd l b):joinR l a b=if (jo l a b).Great then (5,El.bot) else (0,jo l a b):=by
 unfold joinR
 rw [if_neg (by rw [gd2 h ha hb];simp)]
theorem right_S {Z:Zone} {cl:List Value} {ve:Value} {l:Lat} {els:List El} {d:Nat} (hl:LatR Z cl l) (he:ElsR Z ve els) (hn:els.length≤2199023255552) (hd:∀ i (h:i < els.length),(els[i]).Fit d) :
  Cz M (.func (.func 34) #[] #[]) [.agg ⟨cl⟩,ve] Z [] (fun v' Z' A'=>(∃ b,v'=.bool b∧(b=true→(LOk l∧∀ e∈els,Gd l e)∧∀ e∈els,e.sz≤200))∧Z=Z'∧A'=[]):=by
 have hl0:=hl
 have he0:=he
 obtain ⟨l1,l2,l3,l4,rfl,hT,hS⟩:=hl.form
 obtain ⟨ae,ce,rfl⟩:=he.form
 refine Cz.fn (f:=Tryz.f34) Ev.cM rfl rfl rfl _ rfl ?_
 repeat first|refine go ?_|with_reducible intro _
 rename_i b2
 refine Wk.call rfl rfl (Spl.none _) (thinLatS hl0 he0 hn hd) Ev.cM rfl rfl ?_
 rintro v' Z' A' hz ⟨⟨b,rfl,hb⟩,rfl,rfl⟩
 cases b with
 | false =>
  repeat first|refine go ?_|with_reducible intro _
  refine Wk.ret ⟨_,Rs.tmp rfl Rs.nil,_,Sub.none _,⟨false,rfl,fun h=>by cases h⟩,rfl,rfl⟩
 | true =>
 obtain ⟨ht,hs⟩:=hb rfl
 repeat first|refine go ?_|with_reducible intro _
 refine Wk.call rfl rfl (Spl.none _) (rCheckEls hl0 ht he0 hn hd) Ev.cM rfl rfl ?_
 rintro v' Z' A' hz ⟨rfl,rfl,rfl⟩
 repeat first|refine go ?_|with_reducible intro _
 refine Wk.ret ⟨_,Rs.tmp rfl Rs.nil,_,Sub.none _,⟨_,rfl,fun h=>⟨gd_ElsE ht (by simpa using h),fun e he=>by obtain ⟨i,hi,rfl⟩:=List.getElem_of_mem he;exact hs i hi hi⟩⟩,rfl,rfl⟩
theorem right_ {Z:Zone} {cl:List Value} {ve:Value} {l:Lat} {els:List El} {d:Nat} (hl:LatR Z cl l) (he:ElsR Z ve els) (hn:els.length≤2199023255552) (hd:∀ i (h:i < els.length),(els[i]).Fit d) :
  Cz M (.func (.func 34) #[] #[]) [.agg ⟨cl⟩,ve] Z [] (fun v' Z' A'=>(∃ b,v'=.bool b∧(b=true→LOk l∧∀ e∈els,Gd l e))∧Z=Z'∧A'=[]) :=
 (right_S hl he hn hd).mono fun _ _ _ _ ⟨⟨b,e,k⟩,g⟩=>⟨⟨b,e,fun q=>(k q).1⟩,g⟩
theorem joinL_ {Z:Zone} {cl ca cb:List Value} {l:Lat} {a b:El} (h:LOk l) (hl:LatR Z cl l) (ha:ElR Z a ca) (hb:ElR Z b cb) (ga:Gd l a) (gb:Gd l b) :
  Cz M (.func (.func 35) #[] #[]) [.agg ⟨cl⟩,.agg ⟨ca⟩,.agg ⟨cb⟩] Z [] (fun v' Z' A'=>(∃ (r:Bool) (cs:List Value) (e:El),v'=.tuple ⟨[.agg ⟨cs⟩,.bool r,.bool true]⟩∧ElR Z' e cs∧(r=true↔¬ (jo l a b).Great)∧(r=true→e=jo l a b)∧(r=false→e=El.bot))∧A'=[]):=by
 have hl0:=hl
 have ha0:=ha
 have hb0:=hb
 have fa:=ga.fit h
 have fb:=gb.fit h
 classical
 have hjr:=joR h ga gb
 obtain ⟨l1,l2,l3,l4,rfl,hT,hS⟩:=hl.form
 obtain ⟨q1,q2,q3,q4,ua,rfl,ak,as_,aL⟩:=ha.form
 obtain ⟨r1,r2,r3,r4,ub,rfl,bk,bs_,bL⟩:=hb.form
 refine Cz.fn (f:=Tryz.f35) Ev.cM rfl rfl rfl _ rfl ?_
 repeat first|refine go ?_|with_reducible intro _
 rename_i b3 b4 b5 b6
 refine Wk.drawr (ms:=[0,1,0,7,0,31,63,127,255,255,511,2047]) (l:=[0,2,4,1,3,5,6,7,8,9,10,11]) Ev.cM Ev.cM Ev.cM rfl ?_
 repeat first|refine go ?_|with_reducible intro _
 refine Wk.callD rfl rfl (Spl.none _) (copyLattice hl0 h.th) rfl rfl fun v1 Z2 A' hz2 hq=>?_
 obtain ⟨c1,rfl,hL2,rfl⟩:=hq
 refine ⟨?_,?_⟩
 ·exact Ev.pM2
 repeat first|refine go ?_|with_reducible intro _
 refine Wk.callD rfl rfl (Spl.none _) (copyEl 4 fa (ha0.mono hz2)) rfl rfl fun v1 Z3 A' hz3 hq=>?_
 obtain ⟨c2,rfl,hA2,rfl⟩:=hq
 refine ⟨?_,?_⟩
 ·exact Ev.pM2
 repeat first|refine go ?_|with_reducible intro _
 refine Wk.callD rfl rfl (Spl.none _) (copyEl 4 fb (hb0.mono (hz2.trans hz3))) rfl rfl fun v1 Z4 A' hz4 hq=>?_
 obtain ⟨c3,rfl,hB2,rfl⟩:=hq
 refine ⟨?_,?_⟩
 ·exact Ev.pM2
 repeat first|refine go ?_|with_reducible intro _
 refine Wk.callD rfl rfl (Spl.none _) (elemJoin (hL2.mono (hz3.trans hz4)) h.th (hA2.mono hz4) hB2 fa fb) rfl rfl fun v1 Z5 A' hz5 hq=>?_
 obtain ⟨cj,rfl,hj,rfl⟩:=hq
 refine ⟨?_,?_⟩
 ·exact Ev.pM2
 have e2:=hz2.trans (hz3.trans (hz4.trans hz5))
 rw [hjr] at hj ⊢
 by_cases g:(jo l a b).Great
 ·rw [if_pos g] at hj ⊢
  replace hj:ElR Z5 El.bot cj:=hj
  obtain ⟨x1,x2,x3,x4,_,rfl,_,_,_⟩:=hj.form
  repeat first|refine go ?_|with_reducible intro _
  refine Wk.store rfl rfl rfl rfl rfl Ev.uM rfl Ev.cM rfl ?_
  repeat first|refine go ?_|with_reducible intro _
  refine Wk.drawr (ms:=[0,0,2,0,8,24,56,56,184,504,1016,2040,4088,8184,16376,32760,65528,131064,262136,524280,262137,1310719,4194303]) (l:=[0,1,2,3,4,5,6,7,8,9,10,11,12,13,14,15,16,17,18,19,20,21,22]) Ev.cM Ev.cM Ev.cM rfl ?_
  repeat first|refine go ?_|with_reducible intro _
  refine Wk.callD rfl rfl (Spl.none _) (rIsBottom hj) rfl rfl fun v1 Z7 A' hz7 hq=>?_
  obtain ⟨⟨r,rfl,hr⟩,rfl,rfl⟩:=hq
  refine ⟨?_,?_⟩
  ·exact Ev.pM2
  obtain rfl:r=true:=hr.2 (El.Bot_iff.2 rfl)
  repeat first|refine go ?_|with_reducible intro _
  refine Wk.storeD rfl rfl rfl rfl rfl Ev.uM rfl rfl ⟨?_,?_⟩
  ·exact Ev.pM2
  repeat first|refine go ?_|with_reducible intro _
  refine Wk.ret ⟨_,Rs.cell rfl rfl Ev.hM rfl rfl (Rs.tmp rfl (Rs.tmp rfl Rs.nil)),_,Sub.none _,⟨false,_,El.bot,rfl,hj,by simp [g],(fun q=>by cases q),(fun _=>rfl)⟩,rfl⟩
 ·rw [if_neg g] at hj ⊢
  replace hj:ElR Z5 (jo l a b) cj:=hj
  have gj:=ga.jo h gb g
  obtain ⟨x1,x2,x3,x4,_,rfl,_,_,_⟩:=hj.form
  repeat first|refine go ?_|with_reducible intro _
  refine Wk.store rfl rfl rfl rfl rfl Ev.uM rfl Ev.cM rfl ?_
  repeat first|refine go ?_|with_reducible intro _
  refine Wk.drawr (ms:=[0,0,2,0,8,24,56,56,184,504,1016,2040,4088,8184,16376,32760,65528,131064,262136,524280,262137,1310719,4194303]) (l:=[0,1,2,3,4,5,6,7,8,9,10,11,12,13,14,15,16,17,18,19,20,21,22]) Ev.cM Ev.cM Ev.cM rfl ?_
  repeat first|refine go ?_|with_reducible intro _
  refine Wk.bs (cs:=[.int .u8 _,.int .i64 _,.slice x1 _ x2,.slice x3 _ x4]) rfl rfl rfl rfl rfl rfl rfl fun b40=>?_
  first|refine Wk.freezer Rem.head fun Z6 e6 h40=>?_|refine Wk.freeze Rem.head fun Z6 e6 h40=>?_
  repeat first|refine go ?_|with_reducible intro _
  refine Wk.callD rfl rfl (Spl.none _) (rCheckEls (hl0.mono (e2.trans e6)) h.th (ElsR_one (hj.mono e6) h40) (by simp) (Fit1 (gj.fit h))) rfl rfl fun v1 Z7 A' hz7 hq=>?_
  obtain ⟨rfl,rfl,rfl⟩:=hq
  refine ⟨?_,?_⟩
  ·exact Ev.pM2
  rw [ElsE_gd h (els:=[jo l a b]) (fun e he=>by rw [List.mem_singleton.1 he];exact gj)]
  repeat first|refine go ?_|with_reducible intro _
  refine Wk.storeD rfl rfl rfl rfl rfl Ev.uM rfl rfl ⟨?_,?_⟩
  ·exact Ev.pM2
  repeat first|refine go ?_|with_reducible intro _
  refine Wk.ret ⟨_,Rs.cell rfl rfl Ev.hM rfl rfl (Rs.tmp rfl (Rs.tmp rfl Rs.nil)),_,Sub.none _,⟨true,_,jo l a b,rfl,hj.mono e6,by simp [g],(fun _=>rfl),(fun q=>by cases q)⟩,rfl⟩
theorem belowL_ {Z:Zone} {cl ca cb:List Value} {l:Lat} {a b:El} (h:LOk l) (hl:LatR Z cl l) (ha:ElR Z a ca) (hb:ElR Z b cb) (ga:Gd l a) (gb:Gd l b) :
  Cz M (.func (.func 36) #[] #[]) [.agg ⟨cl⟩,.agg ⟨ca⟩,.agg ⟨cb⟩] Z [] (fun v' Z' A'=>Bis v' (LeE l.1 4 l.2 a b)∧A'=[]):=by
 have hl0:=hl
 have ha0:=ha
 have hb0:=hb
 have fa:=ga.fit h
 have fb:=gb.fit h
 obtain ⟨l1,l2,l3,l4,rfl,hT,hS⟩:=hl.form
 obtain ⟨q1,q2,q3,q4,ua,rfl,ak,as_,aL⟩:=ha.form
 obtain ⟨r1,r2,r3,r4,ub,rfl,bk,bs_,bL⟩:=hb.form
 refine Cz.fn (f:=Tryz.f36) Ev.cM rfl rfl rfl _ rfl ?_
 repeat first|refine go ?_|with_reducible intro _
 rename_i b3 b4 b5
 refine Wk.drawr (ms:=[0,1,0,7,0,31,63,127,255,255,511,2047]) (l:=[0,2,4,1,3,5,6,7,8,9,10,11]) Ev.cM Ev.cM Ev.cM rfl ?_
 repeat first|refine go ?_|with_reducible intro _
 refine Wk.callD rfl rfl (Spl.none _) (copyLattice hl0 h.th) rfl rfl fun v1 Z2 A' hz2 hq=>?_
 obtain ⟨c1,rfl,hL2,rfl⟩:=hq
 refine ⟨?_,?_⟩
 ·exact Ev.pM2
 repeat first|refine go ?_|with_reducible intro _
 refine Wk.callD rfl rfl (Spl.none _) (copyEl 4 fa (ha0.mono hz2)) rfl rfl fun v1 Z3 A' hz3 hq=>?_
 obtain ⟨c2,rfl,hA2,rfl⟩:=hq
 refine ⟨?_,?_⟩
 ·exact Ev.pM2
 repeat first|refine go ?_|with_reducible intro _
 refine Wk.callD rfl rfl (Spl.none _) (copyEl 4 fb (hb0.mono (hz2.trans hz3))) rfl rfl fun v1 Z4 A' hz4 hq=>?_
 obtain ⟨c3,rfl,hB2,rfl⟩:=hq
 refine ⟨?_,?_⟩
 ·exact Ev.pM2
 repeat first|refine go ?_|with_reducible intro _
 refine Wk.callD rfl rfl (Spl.none _) (elemBelow (hL2.mono (hz3.trans hz4)) h.th (hA2.mono hz4) hB2 fa fb) rfl rfl fun v1 Z5 A' hz5 hq=>?_
 obtain ⟨⟨r,rfl,hr⟩,rfl,rfl⟩:=hq
 refine ⟨?_,?_⟩
 ·exact Ev.pM2
 rw [gd2 h ga gb] at hr ⊢
 repeat first|refine go ?_|with_reducible intro _
 refine Wk.ret ⟨_,Rs.tmp rfl Rs.nil,_,Sub.none _,⟨r,rfl,by rw [hr];simp⟩,rfl⟩
end Go.Proofs.J
namespace Go.Proofs.J
open Go.Ev Go
end Go.Proofs.J
namespace Go.Proofs.J
open Go.Ev Go
end Go.Proofs.J
namespace Go.Proofs.J
open Go.Ev Go
theorem Gd.delta {l:Lat} {a b:El} (h:LOk l) (ga:Gd l a) (gb:Gd l b):Gd l (deltaE l.1 4 l.2 a b):=by
 have L:=h.T.lat
 have w:=delta_W L (a:=a) gb.1
 exact ⟨w,(delta_le L gb.1).small L w gb.1 gb.2⟩
theorem deltaG {l:Lat} {a b:El} (h:LOk l) (ga:Gd l a) (gb:Gd l b):deltaR l a b=(0,deltaE l.1 4 l.2 a b):=by
 unfold deltaR
 rw [if_neg (by rw [gd2 h ga gb];simp)]
theorem ElemDeltas {Z:Zone} {cl ca cb:List Value} {l:Lat} {a b:El} {d:Nat} (hl:LatR Z cl l) (ha:ElR Z a ca) (hb:ElR Z b cb) (fa:a.Fit d) (fb:b.Fit d) :
  Cz M (.func (.func 9) #[] #[]) [.agg ⟨cl⟩,.agg ⟨ca⟩,.agg ⟨cb⟩] Z [] (fun v' Z' A'=>v'=.bool true):=by
 have hl0:=hl
 have ha0:=ha
 have hb0:=hb
 obtain ⟨l1,l2,l3,l4,rfl,hT,hS⟩:=hl.form
 obtain ⟨q1,q2,q3,q4,ua,rfl,ak,as_,aL⟩:=ha.form
 obtain ⟨r1,r2,r3,r4,ub,rfl,bk,bs_,bL⟩:=hb.form
 clear hl ha hb hT hS ak as_ aL bk bs_ bL
 refine Cz.fn (f:=Tryz.f9) Ev.cM rfl rfl rfl _ rfl ?_
 repeat first|refine go ?_|with_reducible intro _
 refine Wk.bs (cs:=[.int .u8 a.kind,.int .i64 a.n,.slice q1 a.keys.length q2,.slice q3 a.kids.length q4,.int .u8 b.kind,.int .i64 b.n,.slice r1 b.keys.length r2,.slice r3 b.kids.length r4]) rfl rfl rfl rfl rfl rfl rfl fun b9=>?_
 first|refine Wk.freezer Rem.head fun Z1 e1 h9=>?_|refine Wk.freeze Rem.head fun Z1 e1 h9=>?_
 replace hl0:=hl0.mono e1
 replace ha0:=ha0.mono e1
 replace hb0:=hb0.mono e1
 repeat first|refine go ?_|with_reducible intro _
 refine Wk.call rfl rfl (Spl.none _) (right_ hl0 (ElsR_two ha0 hb0 h9) (by simp) (Fit2 fa fb)) Ev.cM rfl rfl ?_
 rintro v' Z' A' hz ⟨⟨bb,rfl,hbb⟩,rfl,rfl⟩
 cases bb with
 | false =>
  repeat first|refine go ?_|with_reducible intro _
  refine Wk.call rfl rfl (Spl.none _) ((Cz.ora rfl)) rfl rfl rfl ?_
  rintro v' Z' A' hz ⟨rfl,rfl,rfl⟩
  repeat first|refine go ?_|with_reducible intro _
  exact Wk.ret ⟨_,Rs.tmp rfl Rs.nil,_,Sub.none _,rfl⟩
 | true =>
 obtain ⟨h,hg⟩:=hbb rfl
 have ga:=hg a (by simp)
 have gb:=hg b (by simp)
 clear hbb hg h9
 have L:=h.T.lat
 have gd:=ga.delta h gb
 repeat first|refine go ?_|with_reducible intro _
 refine Wk.drawr (ms:=[0,1,0,7,0,31,63,127,255,255,0,1535,4095]) (l:=[0,2,4,10,1,3,5,6,7,8,9,11,12]) Ev.cM Ev.cM Ev.cM rfl ?_
 repeat first|refine go ?_|with_reducible intro _
 refine Wk.callD rfl rfl (Spl.none _) (copyLattice hl0 h.th) rfl rfl fun _ _ A' hz2 hq=>?_
 obtain ⟨c1,rfl,hL,rfl⟩:=hq
 refine ⟨?_,?_⟩
 ·exact Ev.pM2
 replace hl0:=hl0.mono hz2
 replace ha0:=ha0.mono hz2
 replace hb0:=hb0.mono hz2
 repeat first|refine go ?_|with_reducible intro _
 refine Wk.callD rfl rfl (Spl.none _) (copyEl 4 (ga.fit h) ha0) rfl rfl fun _ _ A' hz2 hq=>?_
 obtain ⟨c2,rfl,hA,rfl⟩:=hq
 refine ⟨?_,?_⟩
 ·exact Ev.pM2
 replace hL:=hL.mono hz2
 replace hl0:=hl0.mono hz2
 replace ha0:=ha0.mono hz2
 replace hb0:=hb0.mono hz2
 repeat first|refine go ?_|with_reducible intro _
 refine Wk.callD rfl rfl (Spl.none _) (copyEl 4 (gb.fit h) hb0) rfl rfl fun _ _ A' hz2 hq=>?_
 obtain ⟨c3,rfl,hB,rfl⟩:=hq
 refine ⟨?_,?_⟩
 ·exact Ev.pM2
 replace hL:=hL.mono hz2
 replace hA:=hA.mono hz2
 replace hl0:=hl0.mono hz2
 replace ha0:=ha0.mono hz2
 replace hb0:=hb0.mono hz2
 repeat first|refine go ?_|with_reducible intro _
 refine Wk.callD rfl rfl (Spl.none _) (elemDelta hL h.th hA hB (ga.fit h) (gb.fit h)) rfl rfl fun _ _ A' hz2 hq=>?_
 obtain ⟨cd,rfl,hd0,rfl⟩:=hq
 refine ⟨?_,?_⟩
 ·exact Ev.pM2
 rw [deltaG h ga gb] at hd0 ⊢
 replace hl0:=hl0.mono hz2
 replace ha0:=ha0.mono hz2
 replace hb0:=hb0.mono hz2
 obtain ⟨s1,s2,s3,s4,_,rfl,_,_,_⟩:=id hd0.form
 repeat first|refine go ?_|with_reducible intro _
 refine Wk.store rfl rfl rfl rfl rfl Ev.uM rfl Ev.cM rfl ?_
 repeat first|refine go ?_|with_reducible intro _
 refine Wk.drawr (ms:=[0,1,0,0,11,31,63,127,127,0,767,2047]) (l:=[0,2,3,9,1,4,5,6,7,8,10,11]) Ev.cM Ev.cM Ev.cM rfl ?_
 repeat first|refine go ?_|with_reducible intro _
 refine Wk.callD rfl rfl (Spl.none _) (copyLattice hl0 h.th) rfl rfl fun _ _ A' hz2 hq=>?_
 obtain ⟨c5,rfl,hL,rfl⟩:=hq
 refine ⟨?_,?_⟩
 ·exact Ev.pM2
 replace hl0:=hl0.mono hz2
 replace ha0:=ha0.mono hz2
 replace hb0:=hb0.mono hz2
 replace hd0:=hd0.mono hz2
 repeat first|refine go ?_|with_reducible intro _
 refine Wk.callD rfl rfl (Spl.none _) (copyEl 4 (gb.fit h) hb0) rfl rfl fun _ _ A' hz2 hq=>?_
 obtain ⟨c6,rfl,hB,rfl⟩:=hq
 refine ⟨?_,?_⟩
 ·exact Ev.pM2
 replace hL:=hL.mono hz2
 replace hl0:=hl0.mono hz2
 replace ha0:=ha0.mono hz2
 replace hb0:=hb0.mono hz2
 replace hd0:=hd0.mono hz2
 repeat first|refine go ?_|with_reducible intro _
 refine Wk.callD rfl rfl (Spl.none _) (elemDelta hL h.th (ElR_bot _) hB (Gd.bot.fit h) (gb.fit h)) rfl rfl fun _ _ A' hz2 hq=>?_
 obtain ⟨cf,rfl,hf0,rfl⟩:=hq
 refine ⟨?_,?_⟩
 ·exact Ev.pM2
 rw [deltaG h Gd.bot gb,delta_all L gb.1] at hf0 ⊢
 replace hl0:=hl0.mono hz2
 replace ha0:=ha0.mono hz2
 replace hb0:=hb0.mono hz2
 replace hd0:=hd0.mono hz2
 obtain ⟨t1,t2,t3,t4,_,rfl,_,_,_⟩:=id hf0.form
 repeat first|refine go ?_|with_reducible intro _
 refine Wk.store rfl rfl rfl rfl rfl Ev.uM rfl Ev.cM rfl ?_
 repeat first|refine go ?_|with_reducible intro _
 refine Wk.drawr (ms:=[0,1,3,7,15,31,63,127,127,383,1023,2047,4095,8191,16383,16383,65535,131071,262143,524287,1048575,1048575,1048575,8388607,16777215,33554431,67108863,134217727,268435455,134217727,134217727,134217727,4294967295,8589934591,17179869183]) (l:=[0,1,2,3,4,5,6,7,8,9,10,11,12,13,14,15,16,17,18,19,20,21,22,23,24,25,26,27,29,30,31,28,32,33,34]) Ev.cM Ev.cM Ev.cM rfl ?_
 repeat first|refine go ?_|with_reducible intro _
 refine Wk.bs (cs:=[.int .u8 _,.int .i64 _,.slice s1 _ s2,.slice s3 _ s4]) rfl rfl rfl rfl rfl rfl rfl fun b40=>?_
 first|refine Wk.freezer Rem.head fun Z6 e6 h40=>?_|refine Wk.freeze Rem.head fun Z6 e6 h40=>?_
 replace hl0:=hl0.mono e6
 replace ha0:=ha0.mono e6
 replace hb0:=hb0.mono e6
 replace hd0:=hd0.mono e6
 replace hf0:=hf0.mono e6
 repeat first|refine go ?_|with_reducible intro _
 refine Wk.callD rfl rfl (Spl.none _) (rCheckEls hl0 h.th (ElsR_one hd0 h40) (by simp) (Fit1 (gd.fit h))) rfl rfl fun _ _ A' hz2 hq=>?_
 obtain ⟨rfl,rfl,rfl⟩:=hq
 refine ⟨?_,?_⟩
 ·exact Ev.pM2
 rw [ElsE_gd h (els:=[deltaE l.1 4 l.2 a b]) (fun e he=>by rw [List.mem_singleton.1 he];exact gd)]
 repeat first|refine go ?_|with_reducible intro _
 refine Wk.callD rfl rfl (Spl.none _) (sameEl _ (gb.fit h) hf0 hb0) rfl rfl fun _ _ A' hz2 hq=>?_
 obtain ⟨⟨sa,rfl,hsa⟩,rfl,rfl⟩:=hq
 obtain rfl:sa=true:=hsa.2 rfl
 clear hsa
 refine ⟨?_,?_⟩
 ·exact Ev.pM2
 repeat first|refine go ?_|with_reducible intro _
 refine Wk.callD rfl rfl (Spl.none _) (belowL_ h hl0 hd0 hb0 gd gb) rfl rfl fun _ _ A' hz2 hq=>?_
 obtain ⟨⟨sa,rfl,hsa⟩,rfl⟩:=hq
 obtain rfl:sa=true:=hsa.2 (delta_le L gb.1)
 clear hsa
 refine ⟨?_,?_⟩
 ·exact Ev.pM2
 replace hl0:=hl0.mono hz2
 replace ha0:=ha0.mono hz2
 replace hb0:=hb0.mono hz2
 replace hd0:=hd0.mono hz2
 repeat first|refine go ?_|with_reducible intro _
 refine Wk.callD rfl rfl (Spl.none _) (rIsBottom hd0) rfl rfl fun _ _ A' hz2 hq=>?_
 obtain ⟨⟨q,rfl,hq1⟩,rfl,rfl⟩:=hq
 refine ⟨?_,?_⟩
 ·exact Ev.pM2
 repeat first|refine go ?_|with_reducible intro _
 refine Wk.callD rfl rfl (Spl.none _) (belowL_ h hl0 hb0 ha0 gb ga) rfl rfl fun _ _ A' hz2 hq=>?_
 obtain ⟨⟨q5,rfl,hq5⟩,rfl⟩:=hq
 refine ⟨?_,?_⟩
 ·exact Ev.pM2
 replace hl0:=hl0.mono hz2
 replace ha0:=ha0.mono hz2
 replace hb0:=hb0.mono hz2
 replace hd0:=hd0.mono hz2
 have hdb:=delta_bot L (a:=a) ga.1 gb.1
 obtain rfl:q5=q:=Bool.eq_iff_iff.2 (by rw [hq5,←hdb,hq1,El.Bot_iff])
 have jd:jo l a (deltaE l.1 4 l.2 a b)=jo l a b:=delta_join L ga.1 gb.1
 cases q5 with
 | false =>
  repeat first|refine go ?_|with_reducible intro _
  refine Wk.call rfl rfl (Spl.none _) (joinL_ h hl0 ha0 hb0 ga gb) Ev.cM rfl rfl ?_
  rintro v' Z9 A' hz9 ⟨⟨r,cj,e,rfl,hj,h1,h2,h3⟩,rfl⟩
  replace hl0:=hl0.mono hz9
  replace ha0:=ha0.mono hz9
  replace hb0:=hb0.mono hz9
  replace hd0:=hd0.mono hz9
  obtain ⟨u1,u2,u3,u4,_,rfl,_,_,_⟩:=id hj.form
  repeat first|refine go ?_|with_reducible intro _
  refine Wk.call rfl rfl (Spl.none _) (joinL_ h hl0 ha0 hd0 ga gd) Ev.cM rfl rfl ?_
  rintro v' Z9 A' hz9 ⟨⟨rb,cjb,eb,rfl,hjb,h1b,h2b,h3b⟩,rfl⟩
  replace hj:=hj.mono hz9
  obtain ⟨v1,v2,v3,v4,_,rfl,_,_,_⟩:=id hjb.form
  obtain rfl:rb=r:=Bool.eq_iff_iff.2 (by rw [h1b,h1,jd])
  obtain rfl:eb=e:=by
   cases rb with
   | false=>rw [h3b rfl,h3 rfl]
   | true=>rw [h2b rfl,h2 rfl,jd]
  have fe:eb.Fit 4:=by
   cases rb with
   | false=>rw [h3 rfl];exact Gd.bot.fit h
   | true=>rw [h2 rfl];exact (ga.jo h gb (h1.1 rfl)).fit h
  cases rb with
  | false =>
   repeat first|refine go ?_|with_reducible intro _
   refine Wk.call rfl rfl (Spl.none _) (sameEl _ fe hj hjb) Ev.cM rfl rfl ?_
   rintro v' Z' A' hz ⟨⟨sa,rfl,hsa⟩,rfl,rfl⟩
   obtain rfl:sa=true:=hsa.2 rfl
   repeat first|refine go ?_|with_reducible intro _
   refine Wk.call rfl rfl (Spl.none _) ((Cz.ora rfl)) rfl rfl rfl ?_
   rintro v' Z' A' hz ⟨rfl,rfl,rfl⟩
   repeat first|refine go ?_|with_reducible intro _
   exact Wk.ret ⟨_,Rs.tmp rfl Rs.nil,_,Sub.none _,rfl⟩
  | true =>
   repeat first|refine go ?_|with_reducible intro _
   refine Wk.call rfl rfl (Spl.none _) (sameEl _ fe hj hjb) Ev.cM rfl rfl ?_
   rintro v' Z' A' hz ⟨⟨sa,rfl,hsa⟩,rfl,rfl⟩
   obtain rfl:sa=true:=hsa.2 rfl
   repeat first|refine go ?_|with_reducible intro _
   refine Wk.call rfl rfl (Spl.none _) ((Cz.ora rfl)) rfl rfl rfl ?_
   rintro v' Z' A' hz ⟨rfl,rfl,rfl⟩
   repeat first|refine go ?_|with_reducible intro _
   exact Wk.ret ⟨_,Rs.tmp rfl Rs.nil,_,Sub.none _,rfl⟩
 | true =>
  repeat first|refine go ?_|with_reducible intro _
  refine Wk.call rfl rfl (Spl.none _) (joinL_ h hl0 ha0 hb0 ga gb) Ev.cM rfl rfl ?_
  rintro v' Z9 A' hz9 ⟨⟨r,cj,e,rfl,hj,h1,h2,h3⟩,rfl⟩
  replace hl0:=hl0.mono hz9
  replace ha0:=ha0.mono hz9
  replace hb0:=hb0.mono hz9
  replace hd0:=hd0.mono hz9
  obtain ⟨u1,u2,u3,u4,_,rfl,_,_,_⟩:=id hj.form
  repeat first|refine go ?_|with_reducible intro _
  refine Wk.call rfl rfl (Spl.none _) (joinL_ h hl0 ha0 hd0 ga gd) Ev.cM rfl rfl ?_
  rintro v' Z9 A' hz9 ⟨⟨rb,cjb,eb,rfl,hjb,h1b,h2b,h3b⟩,rfl⟩
  replace hj:=hj.mono hz9
  obtain ⟨v1,v2,v3,v4,_,rfl,_,_,_⟩:=id hjb.form
  obtain rfl:rb=r:=Bool.eq_iff_iff.2 (by rw [h1b,h1,jd])
  obtain rfl:eb=e:=by
   cases rb with
   | false=>rw [h3b rfl,h3 rfl]
   | true=>rw [h2b rfl,h2 rfl,jd]
  have fe:eb.Fit 4:=by
   cases rb with
   | false=>rw [h3 rfl];exact Gd.bot.fit h
   | true=>rw [h2 rfl];exact (ga.jo h gb (h1.1 rfl)).fit h
  cases rb with
  | false =>
   repeat first|refine go ?_|with_reducible intro _
   refine Wk.call rfl rfl (Spl.none _) (sameEl _ fe hj hjb) Ev.cM rfl rfl ?_
   rintro v' Z' A' hz ⟨⟨sa,rfl,hsa⟩,rfl,rfl⟩
   obtain rfl:sa=true:=hsa.2 rfl
   repeat first|refine go ?_|with_reducible intro _
   refine Wk.call rfl rfl (Spl.none _) ((Cz.ora rfl)) rfl rfl rfl ?_
   rintro v' Z' A' hz ⟨rfl,rfl,rfl⟩
   repeat first|refine go ?_|with_reducible intro _
   exact Wk.ret ⟨_,Rs.tmp rfl Rs.nil,_,Sub.none _,rfl⟩
  | true =>
   repeat first|refine go ?_|with_reducible intro _
   refine Wk.call rfl rfl (Spl.none _) (sameEl _ fe hj hjb) Ev.cM rfl rfl ?_
   rintro v' Z' A' hz ⟨⟨sa,rfl,hsa⟩,rfl,rfl⟩
   obtain rfl:sa=true:=hsa.2 rfl
   repeat first|refine go ?_|with_reducible intro _
   refine Wk.call rfl rfl (Spl.none _) ((Cz.ora rfl)) rfl rfl rfl ?_
   rintro v' Z' A' hz ⟨rfl,rfl,rfl⟩
   repeat first|refine go ?_|with_reducible intro _
   exact Wk.ret ⟨_,Rs.tmp rfl Rs.nil,_,Sub.none _,rfl⟩
end Go.Proofs.J
namespace Go.Proofs.J
open Go.Ev Go
end Go.Proofs.J
namespace Go.Proofs.J
open Go.Ev Go
end Go.Proofs.J
namespace Go.Proofs.J
open Go Go.Ev
theorem wtv_elem {Z:Zone} {v:Value} (h:WtV Tryz.prog Z 31 v):∃ cs e d,v=.agg ⟨cs⟩∧ElR Z e cs∧e.In d:=by
 obtain ⟨⟨d,w⟩,s⟩:=h
 rw [Tryz.underlying31] at s
 obtain ⟨⟨cs⟩,rfl⟩:=s
 obtain ⟨e,he,hi⟩:=wt_elem d w
 exact ⟨cs,e,d,rfl,he,hi⟩
end Go.Proofs.J
namespace Go.Proofs.J
open Go Go.Ev
theorem wtv_lat {Z:Zone} {v:Value} (h:WtV Tryz.prog Z 27 v):∃ cs l,v=.agg ⟨cs⟩∧LatR Z cs l:=by
 obtain ⟨⟨d,w⟩,s⟩:=h
 rw [Tryz.underlying27] at s
 obtain ⟨⟨cs⟩,rfl⟩:=s
 obtain ⟨l,hl⟩:=wt_lattice w
 exact ⟨cs,l,rfl,hl⟩
end Go.Proofs.J
namespace Go.Proofs.J
open Go Go.Ev
theorem El.Fit.le {d d':Nat} {e:El} (h:e.In d) (k:d≤d'):e.Fit d':=(h.le k).fit
end Go.Proofs.J
namespace Go.Proofs.J
open Go Go.Ev
theorem deltas_law (Z:Zone) (xs:List Value) (h:All2 (fun a t=>WtV Tryz.prog Z t a) xs [27,31,31]):Cz M (.func (.func 9) #[] #[]) xs Z [] (fun v _ _=>v=.bool true):=by
 cases h with
 | cons h1 h =>
  cases h with
  | cons h2 h =>
   cases h with
   | cons h3 h =>
    cases h
    obtain ⟨c1,l,rfl,r1⟩:=wtv_lat h1
    obtain ⟨c2,e2,d2,rfl,r2,i2⟩:=wtv_elem h2
    obtain ⟨c3,e3,d3,rfl,r3,i3⟩:=wtv_elem h3
    exact ElemDeltas r1 r2 r3 (El.Fit.le i2 (Nat.le_max_left d2 d3)) (El.Fit.le i3 (Nat.le_max_right d2 d3))
end Go.Proofs.J
