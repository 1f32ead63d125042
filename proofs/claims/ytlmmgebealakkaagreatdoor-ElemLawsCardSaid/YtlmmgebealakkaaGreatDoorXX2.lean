/- XX2 -/
import Derived.Test.YtlmmgebealakkaaGreatDoorEvF
import Derived.Test.YtlmmgebealakkaaGreatDoorXX1
set_option linter.unusedVariables false
set_option linter.unusedSimpArgs false
set_option maxHeartbeats 4000000
set_option maxRecDepth 100000
namespace Go.Proofs.J
open Go.Ev Go
theorem ElemLaws {Z:Zone} {cl ca cb cd:List Value} {l:Lat} {a b c:El} {d:Nat} (hl:LatR Z cl l) (ha:ElR Z a ca) (hb:ElR Z b cb) (hd:ElR Z c cd) (fa:a.Fit d) (fb:b.Fit d) (fc:c.Fit d) :
  Cz M (.func (.func 6) #[] #[]) [.agg ⟨cl⟩,.agg ⟨ca++(cb++cd)⟩] Z [] (fun v' Z' A'=>v'=.bool true):=by
 have hl0:=hl
 have ha0:=ha
 have hb0:=hb
 have hd0:=hd
 obtain ⟨l1,l2,l3,l4,rfl,hT,hS⟩:=hl.form
 obtain ⟨q1,q2,q3,q4,ua,rfl,ak,as_,aL⟩:=ha.form
 obtain ⟨r1,r2,r3,r4,ub,rfl,bk,bs_,bL⟩:=hb.form
 obtain ⟨s1,s2,s3,s4,ud,rfl,dk,ds_,dL⟩:=hd.form
 simp only [List.cons_append,List.nil_append]
 clear hl ha hb hd hT hS ak as_ aL bk bs_ bL dk ds_ dL
 refine Cz.fn (f:=Tryz.f6) Ev.cM rfl rfl rfl _ rfl ?_
 repeat first|refine go ?_|with_reducible intro _
 refine Wk.bs (cs:=[.int .u8 a.kind,.int .i64 a.n,.slice q1 a.keys.length q2,.slice q3 a.kids.length q4,.int .u8 b.kind,.int .i64 b.n,.slice r1 b.keys.length r2,.slice r3 b.kids.length r4,.int .u8 c.kind,.int .i64 c.n,.slice s1 c.keys.length s2,.slice s3 c.kids.length s4]) rfl rfl rfl rfl rfl rfl rfl fun b9=>?_
 first|refine Wk.freezer Rem.head fun Z1 e1 h9=>?_|refine Wk.freeze Rem.head fun Z1 e1 h9=>?_
 replace hl0:=hl0.mono e1
 replace ha0:=ha0.mono e1
 replace hb0:=hb0.mono e1
 replace hd0:=hd0.mono e1
 repeat first|refine go ?_|with_reducible intro _
 refine Wk.call rfl rfl (Spl.none _) (right_ hl0 (ElsR_three ha0 hb0 hd0 h9) (by simp) (Fit3 fa fb fc)) Ev.cM rfl rfl ?_
 rintro v' Z' A' hz ⟨⟨bb,rfl,hbb⟩,rfl,rfl⟩
 cases bb with
 | false =>
  repeat first|refine go ?_|with_reducible intro _
  refine Wk.call rfl rfl (Spl.none _) ((Cz.ora rfl)) rfl rfl rfl ?_
  rintro v' Z' A' hz ⟨rfl,rfl,rfl⟩
  repeat first|refine go ?_|with_reducible intro _
  exact Wk.ret ⟨_,Rs.tmp rfl Rs.nil,_,Sub.none _,rfl⟩
 | true =>
 obtain ⟨h,hg⟩:=hbb rfl
 have ga:=hg a (by simp)
 have gb:=hg b (by simp)
 have gc:=hg c (by simp)
 clear hbb hg h9
 have L:=h.T.lat
 repeat first|refine go ?_|with_reducible intro _
 refine Wk.call rfl rfl (Spl.none _) (joinL_ h hl0 ha0 hb0 ga gb) Ev.cM rfl rfl ?_
 rintro v' Z9 A' hz9 ⟨⟨r,cj,e,rfl,hj,h1,h2,h3⟩,rfl⟩
 replace hl0:=hl0.mono hz9
 replace ha0:=ha0.mono hz9
 replace hb0:=hb0.mono hz9
 replace hd0:=hd0.mono hz9
 obtain ⟨u1,u2,u3,u4,_,rfl,_,_,_⟩:=id hj.form
 repeat first|refine go ?_|with_reducible intro _
 refine Wk.call rfl rfl (Spl.none _) (joinL_ h hl0 hb0 ha0 gb ga) Ev.cM rfl rfl ?_
 rintro v' Z9 A' hz9 ⟨⟨rb,cjb,eb,rfl,hjb,h1b,h2b,h3b⟩,rfl⟩
 replace hl0:=hl0.mono hz9
 replace ha0:=ha0.mono hz9
 replace hb0:=hb0.mono hz9
 replace hd0:=hd0.mono hz9
 replace hj:=hj.mono hz9
 obtain ⟨v1,v2,v3,v4,_,rfl,_,_,_⟩:=id hjb.form
 obtain rfl:rb=r:=Bool.eq_iff_iff.2 (by rw [h1b,h1,show jo l b a=jo l a b from joinE_comm L gb.1 ga.1])
 obtain rfl:eb=e:=by
  cases rb with
  | false=>rw [h3b rfl,h3 rfl]
  | true=>rw [h2b rfl,h2 rfl];exact joinE_comm L gb.1 ga.1
 repeat first|refine go ?_|with_reducible intro _
 refine Wk.call rfl rfl (Spl.none _) (joinL_ h hl0 hb0 hd0 gb gc) Ev.cM rfl rfl ?_
 rintro v' Z9 A' hz9 ⟨⟨rc,cjc,ec,rfl,hjc,h1c,h2c,h3c⟩,rfl⟩
 replace hl0:=hl0.mono hz9
 replace ha0:=ha0.mono hz9
 replace hb0:=hb0.mono hz9
 replace hd0:=hd0.mono hz9
 replace hj:=hj.mono hz9
 replace hjb:=hjb.mono hz9
 obtain ⟨w1,w2,w3,w4,_,rfl,_,_,_⟩:=id hjc.form
 repeat first|refine go ?_|with_reducible intro _
 refine Wk.call rfl rfl (Spl.none _) (joinL_ h hl0 ha0 ha0 ga ga) Ev.cM rfl rfl ?_
 rintro v' Z9 A' hz9 ⟨⟨ra,cja,ea,rfl,hja,h1a,h2a,h3a⟩,rfl⟩
 replace hl0:=hl0.mono hz9
 replace ha0:=ha0.mono hz9
 replace hb0:=hb0.mono hz9
 replace hd0:=hd0.mono hz9
 replace hj:=hj.mono hz9
 replace hjb:=hjb.mono hz9
 replace hjc:=hjc.mono hz9
 obtain ⟨x1,x2,x3,x4,_,rfl,_,_,_⟩:=id hja.form
 have jaa:jo l a a=a:=joinE_self L ga.1
 obtain rfl:ra=true:=h1a.2 (by rw [jaa];exact ga.2)
 obtain rfl:a=ea:=by rw [h2a rfl,jaa]
 clear h1b h2b h3b h1a h2a h3a
 cases rb with
 | false =>
  repeat first|refine go ?_|with_reducible intro _
  refine Wk.call rfl rfl (Spl.none _) (sameEl _ (ga.fit h) hja ha0) Ev.cM rfl rfl ?_
  rintro v' Z' A' hz ⟨⟨sa,rfl,hsa⟩,rfl,rfl⟩
  obtain rfl:sa=true:=hsa.2 rfl
  clear hsa
  repeat first|refine go ?_|with_reducible intro _
  refine Wk.call rfl rfl (Spl.none _) ((Cz.ora rfl)) rfl rfl rfl ?_
  rintro v' Z' A' hz ⟨rfl,rfl,rfl⟩
  repeat first|refine go ?_|with_reducible intro _
  exact Wk.ret ⟨_,Rs.tmp rfl Rs.nil,_,Sub.none _,rfl⟩
 | true =>
 have g:=h1.1 rfl
 obtain rfl:=h2 rfl
 have gj:=ga.jo h gb g
 clear h1 h2 h3
 repeat first|refine go ?_|with_reducible intro _
 refine Wk.call rfl rfl (Spl.none _) (sameEl _ (ga.fit h) hja ha0) Ev.cM rfl rfl ?_
 rintro v' Z' A' hz ⟨⟨sa,rfl,hsa⟩,rfl,rfl⟩
 obtain rfl:sa=true:=hsa.2 rfl
 clear hsa
 cases rc with
 | false =>
  repeat first|refine go ?_|with_reducible intro _
  refine Wk.call rfl rfl (Spl.none _) ((Cz.ora rfl)) rfl rfl rfl ?_
  rintro v' Z' A' hz ⟨rfl,rfl,rfl⟩
  repeat first|refine go ?_|with_reducible intro _
  exact Wk.ret ⟨_,Rs.tmp rfl Rs.nil,_,Sub.none _,rfl⟩
 | true =>
 have gbc:=h1c.1 rfl
 obtain rfl:=h2c rfl
 have gjc:=gb.jo h gc gbc
 clear h1c h2c h3c
 repeat first|refine go ?_|with_reducible intro _
 refine Wk.call rfl rfl (Spl.none _) (joinL_ h hl0 hj hd0 gj gc) Ev.cM rfl rfl ?_
 rintro v' Z9 A' hz9 ⟨⟨r1,cj1,e1,rfl,hj1,h11,h21,h31⟩,rfl⟩
 replace hl0:=hl0.mono hz9
 replace ha0:=ha0.mono hz9
 replace hb0:=hb0.mono hz9
 replace hd0:=hd0.mono hz9
 replace hj:=hj.mono hz9
 replace hjb:=hjb.mono hz9
 replace hjc:=hjc.mono hz9
 obtain ⟨y1,y2,y3,y4,_,rfl,_,_,_⟩:=id hj1.form
 repeat first|refine go ?_|with_reducible intro _
 refine Wk.call rfl rfl (Spl.none _) (joinL_ h hl0 ha0 hjc ga gjc) Ev.cM rfl rfl ?_
 rintro v' Z9 A' hz9 ⟨⟨r2,cj2,e2,rfl,hj2,h12,h22,h32⟩,rfl⟩
 replace hl0:=hl0.mono hz9
 replace ha0:=ha0.mono hz9
 replace hb0:=hb0.mono hz9
 replace hd0:=hd0.mono hz9
 replace hj:=hj.mono hz9
 replace hjb:=hjb.mono hz9
 replace hj1:=hj1.mono hz9
 obtain ⟨z1,z2,z3,z4,_,rfl,_,_,_⟩:=id hj2.form
 have ass:jo l (jo l a b) c=jo l a (jo l b c):=joinE_assoc L ga.1 gb.1 gc.1
 obtain rfl:r2=r1:=Bool.eq_iff_iff.2 (by rw [h12,h11,ass])
 obtain rfl:e2=e1:=by
  cases r2 with
  | false=>rw [h32 rfl,h31 rfl]
  | true=>rw [h22 rfl,h21 rfl,ass]
 repeat first|refine go ?_|with_reducible intro _
 refine Wk.call rfl rfl (Spl.none _) (joinL_ h hl0 hj hb0 gj gb) Ev.cM rfl rfl ?_
 rintro v' Z9 A' hz9 ⟨⟨r3,cj3,e3,rfl,hj3,h13,h23,h33⟩,rfl⟩
 replace hl0:=hl0.mono hz9
 replace ha0:=ha0.mono hz9
 replace hb0:=hb0.mono hz9
 replace hd0:=hd0.mono hz9
 replace hj:=hj.mono hz9
 replace hjb:=hjb.mono hz9
 replace hj1:=hj1.mono hz9
 replace hj2:=hj2.mono hz9
 obtain ⟨t1,t2,t3,t4,_,rfl,_,_,_⟩:=id hj3.form
 have jb:jo l (jo l a b) b=jo l a b:=by
  rw [show jo l (jo l a b) b=jo l a (jo l b b) from joinE_assoc L ga.1 gb.1 gb.1,show jo l b b=b from joinE_self L gb.1]
 obtain rfl:r3=true:=h13.2 (by rw [jb];exact g)
 obtain rfl:e3=jo l a b:=by rw [h23 rfl,jb]
 clear h12 h22 h32 h13 h23 h33
 have f1:e2.Fit 4:=by
  cases r2 with
  | false=>rw [h31 rfl];exact Gd.bot.fit h
  | true=>rw [h21 rfl];exact (gj.jo h gc (h11.1 rfl)).fit h
 cases r2 with
 | false =>
  repeat first|refine go ?_|with_reducible intro _
  refine Wk.call rfl rfl (Spl.none _) (sameEl _ ((gj.fit h)) hj hjb) Ev.cM rfl rfl ?_
  rintro v' Z' A' hz ⟨⟨sa,rfl,hsa⟩,rfl,rfl⟩
  obtain rfl:sa=true:=hsa.2 rfl
  clear hsa
  repeat first|refine go ?_|with_reducible intro _
  refine Wk.call rfl rfl (Spl.none _) (sameEl _ (f1) hj1 hj2) Ev.cM rfl rfl ?_
  rintro v' Z' A' hz ⟨⟨sa,rfl,hsa⟩,rfl,rfl⟩
  obtain rfl:sa=true:=hsa.2 rfl
  clear hsa
  repeat first|refine go ?_|with_reducible intro _
  refine Wk.call rfl rfl (Spl.none _) (sameEl _ ((gj.fit h)) hj3 hj) Ev.cM rfl rfl ?_
  rintro v' Z' A' hz ⟨⟨sa,rfl,hsa⟩,rfl,rfl⟩
  obtain rfl:sa=true:=hsa.2 rfl
  clear hsa
  repeat first|refine go ?_|with_reducible intro _
  refine Wk.call rfl rfl (Spl.none _) (belowL_ h hl0 ha0 hj ga gj) Ev.cM rfl rfl ?_
  rintro v' Z9 A' hz9 ⟨⟨sb,rfl,hsb⟩,rfl⟩
  obtain rfl:sb=true:=hsb.2 (LeE.left L ga.1 gb.1)
  clear hsb
  replace hl0:=hl0.mono hz9
  replace ha0:=ha0.mono hz9
  replace hb0:=hb0.mono hz9
  replace hd0:=hd0.mono hz9
  replace hj:=hj.mono hz9
  repeat first|refine go ?_|with_reducible intro _
  refine Wk.call rfl rfl (Spl.none _) (belowL_ h hl0 hb0 hj gb gj) Ev.cM rfl rfl ?_
  rintro v' Z9 A' hz9 ⟨⟨sb,rfl,hsb⟩,rfl⟩
  obtain rfl:sb=true:=hsb.2 (LeE.right L ga.1 gb.1)
  clear hsb
  replace hl0:=hl0.mono hz9
  replace ha0:=ha0.mono hz9
  replace hb0:=hb0.mono hz9
  replace hd0:=hd0.mono hz9
  replace hj:=hj.mono hz9
  repeat first|refine go ?_|with_reducible intro _
  refine Wk.drawr (ms:=[0,0,2,0,8,31,63,127,255,255,767,255,2303,8191,16383,32767,65535,131071,131071,131071,655359,2097151,4194303,8388607,16777215,16777215,50331647,16777215,150994943,536870911,16777215,16777215,2164260863,8589934591,17179869183,34359738367,68719476735,137438953471,274877906943,549755813887]) (l:=[0,1,2,3,4,5,6,7,8,9,10,11,12,13,14,15,16,17,18,19,20,21,22,23,24,25,26,27,28,30,31,32,29,33,34,35,36,37,38,39]) Ev.cM Ev.cM Ev.cM rfl ?_
  repeat first|refine go ?_|with_reducible intro _
  refine Wk.callD rfl rfl (Spl.none _) (belowL_ h hl0 ha0 hd0 ga gc) rfl rfl fun _ _ A' hz2 hq=>?_
  obtain ⟨⟨p,rfl,hp⟩,rfl⟩:=hq
  refine ⟨?_,?_⟩
  ·exact Ev.pM2
  replace hl0:=hl0.mono hz2
  replace ha0:=ha0.mono hz2
  replace hb0:=hb0.mono hz2
  replace hd0:=hd0.mono hz2
  replace hj:=hj.mono hz2
  repeat first|refine go ?_|with_reducible intro _
  cases p with
  | false =>
   repeat first|refine go ?_|with_reducible intro _
   refine Wk.callD rfl rfl (Spl.none _) (belowL_ h hl0 ha0 hb0 ga gb) rfl rfl fun _ _ A' hz2 hq=>?_
   obtain ⟨⟨q,rfl,hq5⟩,rfl⟩:=hq
   refine ⟨?_,?_⟩
   ·exact Ev.pM2
   replace hl0:=hl0.mono hz2
   replace ha0:=ha0.mono hz2
   replace hb0:=hb0.mono hz2
   replace hd0:=hd0.mono hz2
   replace hj:=hj.mono hz2
   repeat first|refine go ?_|with_reducible intro _
   refine Wk.callD rfl rfl (Spl.none _) (sameEl _ (gj.fit h) hj hb0) rfl rfl fun _ _ A' hz2 hq=>?_
   obtain ⟨⟨q6,rfl,hq6⟩,rfl,rfl⟩:=hq
   refine ⟨?_,?_⟩
   ·exact Ev.pM2
   obtain rfl:q6=q:=Bool.eq_iff_iff.2 (hq6.trans hq5.symm)
   cases q6 with
   | false =>
    repeat first|refine go ?_|with_reducible intro _
    refine Wk.callD rfl rfl (Spl.none _) (Cz.ora rfl) rfl rfl fun _ _ A' hz2 hq=>?_
    obtain ⟨rfl,rfl,rfl⟩:=hq
    refine ⟨?_,?_⟩
    ·exact Ev.pM2
    repeat first|refine go ?_|with_reducible intro _
    exact Wk.ret ⟨_,Rs.tmp rfl Rs.nil,_,Sub.none _,rfl⟩
   | true =>
    repeat first|refine go ?_|with_reducible intro _
    refine Wk.callD rfl rfl (Spl.none _) (Cz.ora rfl) rfl rfl fun _ _ A' hz2 hq=>?_
    obtain ⟨rfl,rfl,rfl⟩:=hq
    refine ⟨?_,?_⟩
    ·exact Ev.pM2
    repeat first|refine go ?_|with_reducible intro _
    exact Wk.ret ⟨_,Rs.tmp rfl Rs.nil,_,Sub.none _,rfl⟩
  | true =>
  have kac:=hp.1 rfl
  repeat first|refine go ?_|with_reducible intro _
  refine Wk.callD rfl rfl (Spl.none _) (belowL_ h hl0 hb0 hd0 gb gc) rfl rfl fun _ _ A' hz2 hq=>?_
  obtain ⟨⟨p2,rfl,hp2⟩,rfl⟩:=hq
  refine ⟨?_,?_⟩
  ·exact Ev.pM2
  replace hl0:=hl0.mono hz2
  replace ha0:=ha0.mono hz2
  replace hb0:=hb0.mono hz2
  replace hd0:=hd0.mono hz2
  replace hj:=hj.mono hz2
  repeat first|refine go ?_|with_reducible intro _
  cases p2 with
  | false =>
   repeat first|refine go ?_|with_reducible intro _
   refine Wk.callD rfl rfl (Spl.none _) (belowL_ h hl0 ha0 hb0 ga gb) rfl rfl fun _ _ A' hz2 hq=>?_
   obtain ⟨⟨q,rfl,hq5⟩,rfl⟩:=hq
   refine ⟨?_,?_⟩
   ·exact Ev.pM2
   replace hl0:=hl0.mono hz2
   replace ha0:=ha0.mono hz2
   replace hb0:=hb0.mono hz2
   replace hd0:=hd0.mono hz2
   replace hj:=hj.mono hz2
   repeat first|refine go ?_|with_reducible intro _
   refine Wk.callD rfl rfl (Spl.none _) (sameEl _ (gj.fit h) hj hb0) rfl rfl fun _ _ A' hz2 hq=>?_
   obtain ⟨⟨q6,rfl,hq6⟩,rfl,rfl⟩:=hq
   refine ⟨?_,?_⟩
   ·exact Ev.pM2
   obtain rfl:q6=q:=Bool.eq_iff_iff.2 (hq6.trans hq5.symm)
   cases q6 with
   | false =>
    repeat first|refine go ?_|with_reducible intro _
    refine Wk.callD rfl rfl (Spl.none _) (Cz.ora rfl) rfl rfl fun _ _ A' hz2 hq=>?_
    obtain ⟨rfl,rfl,rfl⟩:=hq
    refine ⟨?_,?_⟩
    ·exact Ev.pM2
    repeat first|refine go ?_|with_reducible intro _
    exact Wk.ret ⟨_,Rs.tmp rfl Rs.nil,_,Sub.none _,rfl⟩
   | true =>
    repeat first|refine go ?_|with_reducible intro _
    refine Wk.callD rfl rfl (Spl.none _) (Cz.ora rfl) rfl rfl fun _ _ A' hz2 hq=>?_
    obtain ⟨rfl,rfl,rfl⟩:=hq
    refine ⟨?_,?_⟩
    ·exact Ev.pM2
    repeat first|refine go ?_|with_reducible intro _
    exact Wk.ret ⟨_,Rs.tmp rfl Rs.nil,_,Sub.none _,rfl⟩
  | true =>
  have kbc:=hp2.1 rfl
  repeat first|refine go ?_|with_reducible intro _
  refine Wk.callD rfl rfl (Spl.none _) (belowL_ h hl0 hj hd0 gj gc) rfl rfl fun _ _ A' hz2 hq=>?_
  obtain ⟨⟨p3,rfl,hp3⟩,rfl⟩:=hq
  refine ⟨?_,?_⟩
  ·exact Ev.pM2
  replace hl0:=hl0.mono hz2
  replace ha0:=ha0.mono hz2
  replace hb0:=hb0.mono hz2
  replace hd0:=hd0.mono hz2
  replace hj:=hj.mono hz2
  repeat first|refine go ?_|with_reducible intro _
  obtain rfl:p3=true:=hp3.2 (LeE.join L ga.1 gb.1 gc.1 kac kbc)
  repeat first|refine go ?_|with_reducible intro _
  refine Wk.callD rfl rfl (Spl.none _) (belowL_ h hl0 ha0 hb0 ga gb) rfl rfl fun _ _ A' hz2 hq=>?_
  obtain ⟨⟨q,rfl,hq5⟩,rfl⟩:=hq
  refine ⟨?_,?_⟩
  ·exact Ev.pM2
  replace hl0:=hl0.mono hz2
  replace ha0:=ha0.mono hz2
  replace hb0:=hb0.mono hz2
  replace hd0:=hd0.mono hz2
  replace hj:=hj.mono hz2
  repeat first|refine go ?_|with_reducible intro _
  refine Wk.callD rfl rfl (Spl.none _) (sameEl _ (gj.fit h) hj hb0) rfl rfl fun _ _ A' hz2 hq=>?_
  obtain ⟨⟨q6,rfl,hq6⟩,rfl,rfl⟩:=hq
  refine ⟨?_,?_⟩
  ·exact Ev.pM2
  obtain rfl:q6=q:=Bool.eq_iff_iff.2 (hq6.trans hq5.symm)
  cases q6 with
  | false =>
   repeat first|refine go ?_|with_reducible intro _
   refine Wk.callD rfl rfl (Spl.none _) (Cz.ora rfl) rfl rfl fun _ _ A' hz2 hq=>?_
   obtain ⟨rfl,rfl,rfl⟩:=hq
   refine ⟨?_,?_⟩
   ·exact Ev.pM2
   repeat first|refine go ?_|with_reducible intro _
   exact Wk.ret ⟨_,Rs.tmp rfl Rs.nil,_,Sub.none _,rfl⟩
  | true =>
   repeat first|refine go ?_|with_reducible intro _
   refine Wk.callD rfl rfl (Spl.none _) (Cz.ora rfl) rfl rfl fun _ _ A' hz2 hq=>?_
   obtain ⟨rfl,rfl,rfl⟩:=hq
   refine ⟨?_,?_⟩
   ·exact Ev.pM2
   repeat first|refine go ?_|with_reducible intro _
   exact Wk.ret ⟨_,Rs.tmp rfl Rs.nil,_,Sub.none _,rfl⟩
 | true =>
  repeat first|refine go ?_|with_reducible intro _
  refine Wk.call rfl rfl (Spl.none _) (sameEl _ ((gj.fit h)) hj hjb) Ev.cM rfl rfl ?_
  rintro v' Z' A' hz ⟨⟨sa,rfl,hsa⟩,rfl,rfl⟩
  obtain rfl:sa=true:=hsa.2 rfl
  clear hsa
  repeat first|refine go ?_|with_reducible intro _
  refine Wk.call rfl rfl (Spl.none _) (sameEl _ (f1) hj1 hj2) Ev.cM rfl rfl ?_
  rintro v' Z' A' hz ⟨⟨sa,rfl,hsa⟩,rfl,rfl⟩
  obtain rfl:sa=true:=hsa.2 rfl
  clear hsa
  repeat first|refine go ?_|with_reducible intro _
  refine Wk.call rfl rfl (Spl.none _) (sameEl _ ((gj.fit h)) hj3 hj) Ev.cM rfl rfl ?_
  rintro v' Z' A' hz ⟨⟨sa,rfl,hsa⟩,rfl,rfl⟩
  obtain rfl:sa=true:=hsa.2 rfl
  clear hsa
  repeat first|refine go ?_|with_reducible intro _
  refine Wk.call rfl rfl (Spl.none _) (belowL_ h hl0 ha0 hj ga gj) Ev.cM rfl rfl ?_
  rintro v' Z9 A' hz9 ⟨⟨sb,rfl,hsb⟩,rfl⟩
  obtain rfl:sb=true:=hsb.2 (LeE.left L ga.1 gb.1)
  clear hsb
  replace hl0:=hl0.mono hz9
  replace ha0:=ha0.mono hz9
  replace hb0:=hb0.mono hz9
  replace hd0:=hd0.mono hz9
  replace hj:=hj.mono hz9
  repeat first|refine go ?_|with_reducible intro _
  refine Wk.call rfl rfl (Spl.none _) (belowL_ h hl0 hb0 hj gb gj) Ev.cM rfl rfl ?_
  rintro v' Z9 A' hz9 ⟨⟨sb,rfl,hsb⟩,rfl⟩
  obtain rfl:sb=true:=hsb.2 (LeE.right L ga.1 gb.1)
  clear hsb
  replace hl0:=hl0.mono hz9
  replace ha0:=ha0.mono hz9
  replace hb0:=hb0.mono hz9
  replace hd0:=hd0.mono hz9
  replace hj:=hj.mono hz9
  repeat first|refine go ?_|with_reducible intro _
  refine Wk.drawr (ms:=[0,0,2,0,8,31,63,127,255,255,767,255,2303,8191,16383,32767,65535,131071,131071,131071,655359,2097151,4194303,8388607,16777215,16777215,50331647,16777215,150994943,536870911,16777215,16777215,2164260863,8589934591,17179869183,34359738367,68719476735,137438953471,274877906943,549755813887]) (l:=[0,1,2,3,4,5,6,7,8,9,10,11,12,13,14,15,16,17,18,19,20,21,22,23,24,25,26,27,28,30,31,32,29,33,34,35,36,37,38,39]) Ev.cM Ev.cM Ev.cM rfl ?_
  repeat first|refine go ?_|with_reducible intro _
  refine Wk.callD rfl rfl (Spl.none _) (belowL_ h hl0 ha0 hd0 ga gc) rfl rfl fun _ _ A' hz2 hq=>?_
  obtain ⟨⟨p,rfl,hp⟩,rfl⟩:=hq
  refine ⟨?_,?_⟩
  ·exact Ev.pM2
  replace hl0:=hl0.mono hz2
  replace ha0:=ha0.mono hz2
  replace hb0:=hb0.mono hz2
  replace hd0:=hd0.mono hz2
  replace hj:=hj.mono hz2
  repeat first|refine go ?_|with_reducible intro _
  cases p with
  | false =>
   repeat first|refine go ?_|with_reducible intro _
   refine Wk.callD rfl rfl (Spl.none _) (belowL_ h hl0 ha0 hb0 ga gb) rfl rfl fun _ _ A' hz2 hq=>?_
   obtain ⟨⟨q,rfl,hq5⟩,rfl⟩:=hq
   refine ⟨?_,?_⟩
   ·exact Ev.pM2
   replace hl0:=hl0.mono hz2
   replace ha0:=ha0.mono hz2
   replace hb0:=hb0.mono hz2
   replace hd0:=hd0.mono hz2
   replace hj:=hj.mono hz2
   repeat first|refine go ?_|with_reducible intro _
   refine Wk.callD rfl rfl (Spl.none _) (sameEl _ (gj.fit h) hj hb0) rfl rfl fun _ _ A' hz2 hq=>?_
   obtain ⟨⟨q6,rfl,hq6⟩,rfl,rfl⟩:=hq
   refine ⟨?_,?_⟩
   ·exact Ev.pM2
   obtain rfl:q6=q:=Bool.eq_iff_iff.2 (hq6.trans hq5.symm)
   cases q6 with
   | false =>
    repeat first|refine go ?_|with_reducible intro _
    refine Wk.callD rfl rfl (Spl.none _) (Cz.ora rfl) rfl rfl fun _ _ A' hz2 hq=>?_
    obtain ⟨rfl,rfl,rfl⟩:=hq
    refine ⟨?_,?_⟩
    ·exact Ev.pM2
    repeat first|refine go ?_|with_reducible intro _
    exact Wk.ret ⟨_,Rs.tmp rfl Rs.nil,_,Sub.none _,rfl⟩
   | true =>
    repeat first|refine go ?_|with_reducible intro _
    refine Wk.callD rfl rfl (Spl.none _) (Cz.ora rfl) rfl rfl fun _ _ A' hz2 hq=>?_
    obtain ⟨rfl,rfl,rfl⟩:=hq
    refine ⟨?_,?_⟩
    ·exact Ev.pM2
    repeat first|refine go ?_|with_reducible intro _
    exact Wk.ret ⟨_,Rs.tmp rfl Rs.nil,_,Sub.none _,rfl⟩
  | true =>
  have kac:=hp.1 rfl
  repeat first|refine go ?_|with_reducible intro _
  refine Wk.callD rfl rfl (Spl.none _) (belowL_ h hl0 hb0 hd0 gb gc) rfl rfl fun _ _ A' hz2 hq=>?_
  obtain ⟨⟨p2,rfl,hp2⟩,rfl⟩:=hq
  refine ⟨?_,?_⟩
  ·exact Ev.pM2
  replace hl0:=hl0.mono hz2
  replace ha0:=ha0.mono hz2
  replace hb0:=hb0.mono hz2
  replace hd0:=hd0.mono hz2
  replace hj:=hj.mono hz2
  repeat first|refine go ?_|with_reducible intro _
  cases p2 with
  | false =>
   repeat first|refine go ?_|with_reducible intro _
   refine Wk.callD rfl rfl (Spl.none _) (belowL_ h hl0 ha0 hb0 ga gb) rfl rfl fun _ _ A' hz2 hq=>?_
   obtain ⟨⟨q,rfl,hq5⟩,rfl⟩:=hq
   refine ⟨?_,?_⟩
   ·exact Ev.pM2
   replace hl0:=hl0.mono hz2
   replace ha0:=ha0.mono hz2
   replace hb0:=hb0.mono hz2
   replace hd0:=hd0.mono hz2
   replace hj:=hj.mono hz2
   repeat first|refine go ?_|with_reducible intro _
   refine Wk.callD rfl rfl (Spl.none _) (sameEl _ (gj.fit h) hj hb0) rfl rfl fun _ _ A' hz2 hq=>?_
   obtain ⟨⟨q6,rfl,hq6⟩,rfl,rfl⟩:=hq
   refine ⟨?_,?_⟩
   ·exact Ev.pM2
   obtain rfl:q6=q:=Bool.eq_iff_iff.2 (hq6.trans hq5.symm)
   cases q6 with
   | false =>
    repeat first|refine go ?_|with_reducible intro _
    refine Wk.callD rfl rfl (Spl.none _) (Cz.ora rfl) rfl rfl fun _ _ A' hz2 hq=>?_
    obtain ⟨rfl,rfl,rfl⟩:=hq
    refine ⟨?_,?_⟩
    ·exact Ev.pM2
    repeat first|refine go ?_|with_reducible intro _
    exact Wk.ret ⟨_,Rs.tmp rfl Rs.nil,_,Sub.none _,rfl⟩
   | true =>
    repeat first|refine go ?_|with_reducible intro _
    refine Wk.callD rfl rfl (Spl.none _) (Cz.ora rfl) rfl rfl fun _ _ A' hz2 hq=>?_
    obtain ⟨rfl,rfl,rfl⟩:=hq
    refine ⟨?_,?_⟩
    ·exact Ev.pM2
    repeat first|refine go ?_|with_reducible intro _
    exact Wk.ret ⟨_,Rs.tmp rfl Rs.nil,_,Sub.none _,rfl⟩
  | true =>
  have kbc:=hp2.1 rfl
  repeat first|refine go ?_|with_reducible intro _
  refine Wk.callD rfl rfl (Spl.none _) (belowL_ h hl0 hj hd0 gj gc) rfl rfl fun _ _ A' hz2 hq=>?_
  obtain ⟨⟨p3,rfl,hp3⟩,rfl⟩:=hq
  refine ⟨?_,?_⟩
  ·exact Ev.pM2
  replace hl0:=hl0.mono hz2
  replace ha0:=ha0.mono hz2
  replace hb0:=hb0.mono hz2
  replace hd0:=hd0.mono hz2
  replace hj:=hj.mono hz2
  repeat first|refine go ?_|with_reducible intro _
  obtain rfl:p3=true:=hp3.2 (LeE.join L ga.1 gb.1 gc.1 kac kbc)
  repeat first|refine go ?_|with_reducible intro _
  refine Wk.callD rfl rfl (Spl.none _) (belowL_ h hl0 ha0 hb0 ga gb) rfl rfl fun _ _ A' hz2 hq=>?_
  obtain ⟨⟨q,rfl,hq5⟩,rfl⟩:=hq
  refine ⟨?_,?_⟩
  ·exact Ev.pM2
  replace hl0:=hl0.mono hz2
  replace ha0:=ha0.mono hz2
  replace hb0:=hb0.mono hz2
  replace hd0:=hd0.mono hz2
  replace hj:=hj.mono hz2
  repeat first|refine go ?_|with_reducible intro _
  refine Wk.callD rfl rfl (Spl.none _) (sameEl _ (gj.fit h) hj hb0) rfl rfl fun _ _ A' hz2 hq=>?_
  obtain ⟨⟨q6,rfl,hq6⟩,rfl,rfl⟩:=hq
  refine ⟨?_,?_⟩
  ·exact Ev.pM2
  obtain rfl:q6=q:=Bool.eq_iff_iff.2 (hq6.trans hq5.symm)
  cases q6 with
  | false =>
   repeat first|refine go ?_|with_reducible intro _
   refine Wk.callD rfl rfl (Spl.none _) (Cz.ora rfl) rfl rfl fun _ _ A' hz2 hq=>?_
   obtain ⟨rfl,rfl,rfl⟩:=hq
   refine ⟨?_,?_⟩
   ·exact Ev.pM2
   repeat first|refine go ?_|with_reducible intro _
   exact Wk.ret ⟨_,Rs.tmp rfl Rs.nil,_,Sub.none _,rfl⟩
  | true =>
   repeat first|refine go ?_|with_reducible intro _
   refine Wk.callD rfl rfl (Spl.none _) (Cz.ora rfl) rfl rfl fun _ _ A' hz2 hq=>?_
   obtain ⟨rfl,rfl,rfl⟩:=hq
   refine ⟨?_,?_⟩
   ·exact Ev.pM2
   repeat first|refine go ?_|with_reducible intro _
   exact Wk.ret ⟨_,Rs.tmp rfl Rs.nil,_,Sub.none _,rfl⟩
end Go.Proofs.J
namespace Go.Proofs.J
open Go Go.Ev
theorem laws_law (Z:Zone) (xs:List Value) (h:All2 (fun a t=>WtV Tryz.prog Z t a) xs [27,50]):Cz M (.func (.func 6) #[] #[]) xs Z [] (fun v _ _=>v=.bool true):=by
 cases h with
 | cons h1 h =>
  cases h with
  | cons h2 h =>
   cases h
   obtain ⟨c1,l,rfl,r1⟩:=wtv_lat h1
   obtain ⟨ca,cb,cd,a,b,c,d,rfl,ra,rb,rc,ia,ib,ic⟩:=wtv_three h2
   exact ElemLaws r1 ra rb rc ia.fit ib.fit ic.fit
end Go.Proofs.J
