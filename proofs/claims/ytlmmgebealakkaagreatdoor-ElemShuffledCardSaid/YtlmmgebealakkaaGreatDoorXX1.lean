/- XX1 -/
import Derived.Test.YtlmmgebealakkaaGreatDoorEvF
import Derived.Test.YtlmmgebealakkaaGreatDoorXX
import Derived.Test.YtlmmgebealakkaaGreatDoorFA
set_option linter.unusedVariables false
set_option linter.unusedSimpArgs false
set_option maxHeartbeats 4000000
set_option maxRecDepth 100000
namespace Go.Proofs.J
open Go.Ev Go
theorem ElRL.set {Z:Zone} {e:El} {a b c f:Value} (he:ElR Z e [a,b,c,f]):∀ {l:List El} {us:List Value} {i:Nat},ElRL Z l us→i < l.length→∃ us',setCells us (i*4) [a,b,c,f]=some us'∧ElRL Z (l.set i e) us'
 | [],us,i,h,hi=>by simp at hi
 | s::r,us,0,h,hi=>by
  simp only [ElRL] at h
  obtain ⟨cs,rest,rfl,h2,h3⟩:=h
  obtain ⟨a1,c1,a2,c2,us',rfl,_⟩:=h2.form
  refine ⟨[a,b,c,f]++rest,by simp [setCells],?_⟩
  simp only [List.set_cons_zero,ElRL]
  exact ⟨_,_,rfl,he,h3⟩
 | s::r,us,i+1,h,hi=>by
  simp only [ElRL] at h
  obtain ⟨cs,rest,rfl,h2,h3⟩:=h
  obtain ⟨a1,c1,a2,c2,us',rfl,_⟩:=h2.form
  obtain ⟨rest',k1,k2⟩:=ElRL.set he h3 (i:=i) (by simpa using hi)
  refine ⟨[Value.int .u8 s.kind,.int .i64 s.n,.slice a1 s.keys.length c1,.slice a2 s.kids.length c2]++rest',?_,?_⟩
  ·unfold setCells at k1 ⊢
   split at k1
   ·rename_i q
    cases k1
    rw [if_pos (by simp at q ⊢;omega)]
    have e:(i+1)*4=4+i*4:=by omega
    rw [e]
    simp only [List.cons_append,List.nil_append,Option.some.injEq]
    rw [show 4+i*4=i*4+1+1+1+1 by omega,show i*4+1+1+1+1+[a,b,c,f].length=i*4+[a,b,c,f].length+1+1+1+1 by omega]
    simp only [List.take_succ_cons,List.drop_succ_cons,List.cons_append]
   ·cases k1
  ·simp only [List.set_cons_succ,ElRL]
   exact ⟨_,_,rfl,h2,k2⟩
theorem swap_mem {l:List El} {i j:Nat} (hi:i < l.length) (hj:j < l.length) (x:El):x∈(l.set i l[j]).set j l[i]↔x∈l :=
 (List.set_set_perm hi hj).mem_iff
theorem joinsR_same {l:Lat} {a b:List El} (h:LOk l) (ha:∀ e∈a,Gd l e) (e:∀ x,x∈a↔x∈b):joinsR l b=joinsR l a:=by
 classical
 have hb:∀ e∈b,Gd l e:=fun x hx=>ha x ((e x).2 hx)
 have f:foldJ l.1 4 l.2 a=foldJ l.1 4 l.2 b:=foldJ_same h.T.lat (fun x hx=>(ha x hx).1) e
 by_cases g:(foldJ l.1 4 l.2 a).Great
 ·rw [ElsE_big ⟨h,ha⟩ g,ElsE_big ⟨h,hb⟩ (f▸g)]
 ·rw [ElsE_small ⟨h,ha⟩ g,ElsE_small ⟨h,hb⟩ (f▸g),f]
theorem ElemShuffled {Z:Zone} {cl:List Value} {ve vb:Value} {l:Lat} {els:List El} {bs:List Int} {d:Nat} (hl:LatR Z cl l) (he:ElsR Z ve els) (hn:els.length≤2199023255552) (hf:∀ i (h:i < els.length),(els[i]).Fit d) (hb:Sl Z 1 vb bs.length (by8 bs)) (hb2:∀ x∈bs,0≤x∧x≤255) :
  Cz M (.func (.func 11) #[] #[]) [.agg ⟨cl⟩,ve,vb] Z [] (fun v' Z' A'=>v'=.bool true):=by
 have hl0:=hl
 have he0:=he
 obtain ⟨l1,l2,l3,l4,rfl,hT,hS⟩:=hl.form
 obtain ⟨ae,ce,rfl⟩:=he.form
 obtain ⟨ab,cb,rfl⟩:=hb.form
 obtain ⟨use,hse,hre⟩:=he
 clear hl hT hS
 refine Cz.fn (f:=Tryz.f11) Ev.cM rfl rfl rfl _ rfl ?_
 repeat first|refine go ?_|with_reducible intro _
 rename_i b3
 refine Wk.caser 18 rfl (fun hc=>?_) (fun hc=>?_)
 ·repeat first|refine go ?_|with_reducible intro _
  refine Wk.call rfl rfl (Spl.none _) ((Cz.ora rfl)) rfl rfl rfl ?_
  rintro v' Z' A' hz ⟨rfl,rfl,rfl⟩
  repeat first|refine go ?_|with_reducible intro _
  exact Wk.ret ⟨_,Rs.tmp rfl Rs.nil,_,Sub.none _,rfl⟩
 have h8:els.length≤8:=by simp at hc;omega
 clear hc
 repeat first|refine go ?_|with_reducible intro _
 refine Wk.caser 23 rfl (fun hc=>?_) (fun hc=>?_)
 ·repeat first|refine go ?_|with_reducible intro _
  refine Wk.call rfl rfl (Spl.none _) ((Cz.ora rfl)) rfl rfl rfl ?_
  rintro v' Z' A' hz ⟨rfl,rfl,rfl⟩
  repeat first|refine go ?_|with_reducible intro _
  exact Wk.ret ⟨_,Rs.tmp rfl Rs.nil,_,Sub.none _,rfl⟩
 have h20:bs.length≤20:=by simp at hc;omega
 clear hc
 repeat first|refine go ?_|with_reducible intro _
 refine Wk.call rfl rfl (Spl.none _) (right_ hl0 he0 hn hf) rfl rfl rfl ?_
 rintro v' Z' A' hz ⟨⟨bb,rfl,hbb⟩,rfl,rfl⟩
 cases bb with
 | false =>
  repeat first|refine go ?_|with_reducible intro _
  refine Wk.call rfl rfl (Spl.none _) ((Cz.ora rfl)) rfl rfl rfl ?_
  rintro v' Z' A' hz ⟨rfl,rfl,rfl⟩
  repeat first|refine go ?_|with_reducible intro _
  exact Wk.ret ⟨_,Rs.tmp rfl Rs.nil,_,Sub.none _,rfl⟩
 | true =>
 obtain ⟨h,hg⟩:=hbb rfl
 repeat first|refine go ?_|with_reducible intro _
 refine Wk.call rfl rfl (Spl.none _) (copiesO he0 hn hf) rfl rfl rfl ?_
 rintro vk0 Z0 A' hz0 ⟨us0,hks0,rfl⟩
 replace hl0:=hl0.mono hz0
 replace he0:=he0.mono hz0
 replace hse:=hse.mono hz0
 replace hre:=hre.mono hz0
 replace hb:=hb.mono hz0
 repeat first|refine go ?_|with_reducible intro _
 refine Wk.loop (fun w L Z' A'=>∃ (i:Nat) (vk:Value) (ks:List El) (us:List Value),i≤bs.length∧w=bs.length - i∧Ext Z0 Z'∧ElRL Z' ks us∧ks.length≤8+i∧(∀ x,x∈els↔x∈ks)∧A'=[ol 4 vk ks.length us,pt b3 (.cells [.slice l1 l.1.length l2,.int .u8 l.2.kind,.string l.2.name,.slice l3 l.2.kids.length l4] true 0)]∧Kp L [(1,.slice ae els.length ce),(2,.slice ab bs.length cb),(3,.pointer (some ⟨b3,0,none⟩)),(7,vk),(8,.int .i64 i)]) bs.length ⟨0,vk0,els,us0,Nat.zero_le _,rfl,Ext.refl _,hks0,h8,fun _=>Iff.rfl,rfl,Ev.kM⟩ ?_
 rintro w' L Z8 A8 - ⟨i,vk,ks,us,hi,rfl,hz,hks,hkl,hmem,rfl,hkp⟩
 refine Wk.kp hkp ?_
 clear hkp
 have hse8:=hse.mono hz
 have hb8:=hb.mono hz
 repeat first|refine go ?_|with_reducible intro _
 refine Wk.caser 36 rfl (fun hc=>?_) (fun hc=>?_)
 rotate_left
 ·clear hc
  repeat first|refine go ?_|with_reducible intro _
  have hsame:=joinsR_same h hg hmem
  first|apply Wk.olFreezer (v:=vk)|apply Wk.olFreeze (v:=vk)
  case p=>repeat (first|exact Rem.head|apply Rem.tail)
  intro Z1 e1 hP
  have hK:ElsR Z1 vk ks:=⟨us,hP,hks.mono e1⟩
  obtain ⟨aP,cP,rfl⟩:=hP.form
  replace hl0:=(hl0.mono hz).mono e1
  replace he0:=(he0.mono hz).mono e1
  have hfk:∀ i (hi:i < ks.length),(ks[i]).Fit 4:=fun i hi=>(hg _ ((hmem _).2 (List.getElem_mem hi))).fit h
  have hfe:∀ i (hi:i < els.length),(els[i]).Fit 4:=fun i hi=>(hg _ (List.getElem_mem hi)).fit h
  clear hP hks
  repeat first|refine go ?_|with_reducible intro _
  refine Wk.call rfl rfl (Spl.none _) (copyLattice hl0 h.th) rfl rfl rfl ?_
  rintro v2 Z3 A' hz3 ⟨c1,rfl,hL,rfl⟩
  replace hl0:=hl0.mono hz3
  replace he0:=he0.mono hz3
  replace hK:=hK.mono hz3
  repeat first|refine go ?_|with_reducible intro _
  refine Wk.call rfl rfl (Spl.none _) (copyEls he0 hn hfe) rfl rfl rfl ?_
  rintro vc Z2 A' hz2 ⟨hc9,rfl⟩
  replace hl0:=hl0.mono hz2
  replace he0:=he0.mono hz2
  replace hK:=hK.mono hz2
  replace hL:=hL.mono hz2
  repeat first|refine go ?_|with_reducible intro _
  refine Wk.call rfl rfl (Spl.none _) (elemJoinAll hL h.th hc9 hn hfe) rfl rfl rfl ?_
  rintro v3 Z4 A' hz4 ⟨c2,rfl,hj,rfl⟩
  replace hl0:=hl0.mono hz4
  replace he0:=he0.mono hz4
  replace hK:=hK.mono hz4
  obtain ⟨x1,x2,x3,x4,_,rfl,_,_,_⟩:=id hj.form
  repeat first|refine go ?_|with_reducible intro _
  refine Wk.call rfl rfl (Spl.none _) (copyLattice hl0 h.th) rfl rfl rfl ?_
  rintro v2 Z5 A' hz5 ⟨c5,rfl,hL5,rfl⟩
  replace hK:=hK.mono hz5
  replace hj:=hj.mono hz5
  repeat first|refine go ?_|with_reducible intro _
  refine Wk.call rfl rfl (Spl.none _) (elemJoinAll hL5 h.th hK Ev.wM hfk) rfl rfl rfl ?_
  rintro v3 Z6 A' hz6 ⟨c6,rfl,hj6,rfl⟩
  replace hj:=hj.mono hz6
  rw [hsame] at hj6 ⊢
  obtain ⟨y1,y2,y3,y4,_,rfl,_,_,_⟩:=id hj6.form
  repeat first|refine go ?_|with_reducible intro _
  refine Wk.caser 104 rfl (fun hq=>?_) (fun hq=>absurd hq (by simp))
  clear hq
  repeat first|refine go ?_|with_reducible intro _
  refine Wk.call rfl rfl (Spl.none _) (sameEl _ (joinsR_fit h.th) hj hj6) rfl rfl rfl ?_
  rintro v' Z' A' hz ⟨⟨sa,rfl,hsa⟩,rfl,rfl⟩
  obtain rfl:sa=true:=hsa.2 rfl
  repeat first|refine go ?_|with_reducible intro _
  refine Wk.call rfl rfl (Spl.none _) ((Cz.ora rfl)) rfl rfl rfl ?_
  rintro v' Z' A' hz ⟨rfl,rfl,rfl⟩
  repeat first|refine go ?_|with_reducible intro _
  exact Wk.ret ⟨_,Rs.tmp rfl Rs.nil,_,Sub.none _,rfl⟩
 have hit:i < bs.length:=by simp at hc;omega
 clear hc
 repeat first|refine go ?_|with_reducible intro _
 refine Wk.cond rfl (fun hc=>?_) (fun hc=>?_)
 rotate_left
 ·clear hc
  repeat first|refine go ?_|with_reducible intro _
  have hsame:=joinsR_same h hg hmem
  first|apply Wk.olFreezer (v:=vk)|apply Wk.olFreeze (v:=vk)
  case p=>repeat (first|exact Rem.head|apply Rem.tail)
  intro Z1 e1 hP
  have hK:ElsR Z1 vk ks:=⟨us,hP,hks.mono e1⟩
  obtain ⟨aP,cP,rfl⟩:=hP.form
  replace hl0:=(hl0.mono hz).mono e1
  replace he0:=(he0.mono hz).mono e1
  have hfk:∀ i (hi:i < ks.length),(ks[i]).Fit 4:=fun i hi=>(hg _ ((hmem _).2 (List.getElem_mem hi))).fit h
  have hfe:∀ i (hi:i < els.length),(els[i]).Fit 4:=fun i hi=>(hg _ (List.getElem_mem hi)).fit h
  clear hP hks
  repeat first|refine go ?_|with_reducible intro _
  refine Wk.call rfl rfl (Spl.none _) (copyLattice hl0 h.th) rfl rfl rfl ?_
  rintro v2 Z3 A' hz3 ⟨c1,rfl,hL,rfl⟩
  replace hl0:=hl0.mono hz3
  replace he0:=he0.mono hz3
  replace hK:=hK.mono hz3
  repeat first|refine go ?_|with_reducible intro _
  refine Wk.call rfl rfl (Spl.none _) (copyEls he0 hn hfe) rfl rfl rfl ?_
  rintro vc Z2 A' hz2 ⟨hc9,rfl⟩
  replace hl0:=hl0.mono hz2
  replace he0:=he0.mono hz2
  replace hK:=hK.mono hz2
  replace hL:=hL.mono hz2
  repeat first|refine go ?_|with_reducible intro _
  refine Wk.call rfl rfl (Spl.none _) (elemJoinAll hL h.th hc9 hn hfe) rfl rfl rfl ?_
  rintro v3 Z4 A' hz4 ⟨c2,rfl,hj,rfl⟩
  replace hl0:=hl0.mono hz4
  replace he0:=he0.mono hz4
  replace hK:=hK.mono hz4
  obtain ⟨x1,x2,x3,x4,_,rfl,_,_,_⟩:=id hj.form
  repeat first|refine go ?_|with_reducible intro _
  refine Wk.call rfl rfl (Spl.none _) (copyLattice hl0 h.th) rfl rfl rfl ?_
  rintro v2 Z5 A' hz5 ⟨c5,rfl,hL5,rfl⟩
  replace hK:=hK.mono hz5
  replace hj:=hj.mono hz5
  repeat first|refine go ?_|with_reducible intro _
  refine Wk.call rfl rfl (Spl.none _) (elemJoinAll hL5 h.th hK Ev.wM hfk) rfl rfl rfl ?_
  rintro v3 Z6 A' hz6 ⟨c6,rfl,hj6,rfl⟩
  replace hj:=hj.mono hz6
  rw [hsame] at hj6 ⊢
  obtain ⟨y1,y2,y3,y4,_,rfl,_,_,_⟩:=id hj6.form
  repeat first|refine go ?_|with_reducible intro _
  refine Wk.caser 104 rfl (fun hq=>?_) (fun hq=>absurd hq (by simp))
  clear hq
  repeat first|refine go ?_|with_reducible intro _
  refine Wk.call rfl rfl (Spl.none _) (sameEl _ (joinsR_fit h.th) hj hj6) rfl rfl rfl ?_
  rintro v' Z' A' hz ⟨⟨sa,rfl,hsa⟩,rfl,rfl⟩
  obtain rfl:sa=true:=hsa.2 rfl
  repeat first|refine go ?_|with_reducible intro _
  refine Wk.call rfl rfl (Spl.none _) ((Cz.ora rfl)) rfl rfl rfl ?_
  rintro v' Z' A' hz ⟨rfl,rfl,rfl⟩
  repeat first|refine go ?_|with_reducible intro _
  exact Wk.ret ⟨_,Rs.tmp rfl Rs.nil,_,Sub.none _,rfl⟩
 have hel:0 < els.length:=by simp at hc;omega
 clear hc
 have hkp0:0 < ks.length:=by
  have:=(hmem _).1 (List.getElem_mem hel)
  exact List.length_pos_of_mem this
 obtain ⟨q,hq⟩:∃ q:Nat,bs[i]=(q:Int):=⟨bs[i].toNat,by have:=hb2 _ (List.getElem_mem hit);omega⟩
 have q255:q≤255:=by have:=hb2 _ (List.getElem_mem hit);omega
 have gb:getCells (by8 bs) (i*1) 1=some [.int .u8 (q:Int)]:=by rw [←hq];exact getCells_map hit
 have hm:i % ks.length < ks.length:=Nat.mod_lt _ hkp0
 have hn2:q % ks.length < ks.length:=Nat.mod_lt _ hkp0
 have hr:q % ks.length % els.length < els.length:=Nat.mod_lt _ hel
 repeat first|refine go ?_|with_reducible intro _
 refine Wk.drawr (ms:=[0,0,2,7,0,0,48,112,240,0,512,2032,15,8191]) (l:=[0,1,2,3,4,5,6,7,8,9,10,11,12,13]) Ev.cM Ev.cM Ev.cM rfl ?_
 repeat first|refine go ?_|with_reducible intro _
 refine Wk.conv rfl rfl rfl (Go.Ev.wrap_small Ev.wM Ev.wM) rfl rfl rfl ?_
 repeat first|refine go ?_|with_reducible intro _
 rw [←Int.natCast_emod i ks.length,←Int.natCast_emod q ks.length]
 generalize i % ks.length=m at hm ⊢
 generalize q % ks.length=n at hn2 hr ⊢
 obtain ⟨k1,o1,x1,m1,y1,x2,m2,y2,g1,r1⟩:=hks.get m hm
 obtain ⟨k2,o2,x3,m3,y3,x4,m4,y4,g2,r2⟩:=hks.get n hn2
 obtain ⟨us1,st1,hk1⟩:=ElRL.set r2 hks hm
 obtain ⟨us2,st2,hk2⟩:=ElRL.set r1 hk1 (i:=n) (by simpa using hn2)
 refine Wk.olOpen (sz:=4) (v:=vk) Ev.rM hkp0 fun bo=>?_
 refine Wk.drawr (ms:=[0,0,0,0,0,0,48,112,0,0,768,1792,4083,8179,16383,32767]) (l:=[0,1,2,3,4,5,6,7,8,9,10,11,12,13,14,15]) Ev.cM Ev.cM Ev.cM rfl ?_
 repeat first|refine go ?_|with_reducible intro _
 refine Wk.iaOlp n Ev.rM rfl rfl rfl rfl rfl rfl rfl hn2 ?_
 refine Wk.loadOlp (b:=bo) (cs:=[.int .u8 k2,.int .i64 o2,.slice x3 m3 y3,.slice x4 m4 y4]) (v:=.agg ⟨[.int .u8 k2,.int .i64 o2,.slice x3 m3 y3,.slice x4 m4 y4]⟩) rfl rfl Ev.rM g2 rfl rfl rfl ?_
 repeat first|refine go ?_|with_reducible intro _
 refine Wk.iaOlp m Ev.rM rfl rfl rfl rfl rfl rfl rfl hm ?_
 refine Wk.loadOlp (b:=bo) (cs:=[.int .u8 k1,.int .i64 o1,.slice x1 m1 y1,.slice x2 m2 y2]) (v:=.agg ⟨[.int .u8 k1,.int .i64 o1,.slice x1 m1 y1,.slice x2 m2 y2]⟩) rfl rfl Ev.rM g1 rfl rfl rfl ?_
 refine Wk.iaOlp m Ev.rM rfl rfl rfl rfl rfl rfl rfl hm ?_
 refine Wk.storeOlp (b:=bo) rfl rfl rfl rfl rfl Ev.rM st1 Ev.cM rfl ?_
 refine Wk.iaOlp n Ev.rM rfl rfl rfl rfl rfl rfl rfl hn2 ?_
 refine Wk.storeOlp (b:=bo) rfl rfl rfl rfl rfl Ev.rM st2 Ev.cM rfl ?_
 refine Wk.olShutr Ev.rM ?_
 have hk3:ElRL Z8 ((ks.set m ks[n]).set n ks[m]) us2:=hk2
 have hln:((ks.set m ks[n]).set n ks[m]).length=ks.length:=by simp
 have hmem3:∀ x,x∈els↔x∈(ks.set m ks[n]).set n ks[m]:=fun x=>(hmem x).trans (swap_mem hm hn2 x).symm
 clear hk1 hk2 r1 r2 g1 g2 st1 st2 hmem hks
 revert hln hmem3 hk3
 generalize (ks.set m ks[n]).set n ks[m]=kz
 intro hk3 hln hmem3
 have hel2:els[n % els.length]∈els:=List.getElem_mem hr
 obtain ⟨k5,o5,w1,n1,z1,w2,n2,z2,g5,r5⟩:=hre.get (n % els.length) hr
 have r8:=r5.mono hz
 repeat first|refine go ?_|with_reducible intro _
 refine Wk.bin (v:=.int .u8 ((q:Int).tmod 7)) rfl rfl (by simp [abin,intBin]) rfl rfl ?_
 repeat first|refine go ?_|with_reducible intro _
 refine Wk.cond rfl (fun hc=>?_) (fun hc=>?_)
 ·clear hc
  repeat first|refine go ?_|with_reducible intro _
  rw [←Int.natCast_emod n els.length]
  repeat first|refine go ?_|with_reducible intro _
  refine Wk.call rfl rfl (Spl.none _) (copyEl d (hf _ hr) r8) rfl rfl rfl ?_
  rintro v' Z2 A' hz2 ⟨cs',rfl,hR,rfl⟩
  obtain ⟨p1,q1,p2,q2,us9,rfl,_,_,_⟩:=hR.form
  repeat first|refine go ?_|with_reducible intro _
  refine Wk.bs (cs:=[.int .u8 els[n % els.length].kind,.int .i64 els[n % els.length].n,.slice p1 els[n % els.length].keys.length q1,.slice p2 els[n % els.length].kids.length q2]) rfl rfl rfl rfl rfl rfl rfl fun b50=>?_
  refine Wk.append (kk:=1) (new:=[.int .u8 els[n % els.length].kind,.int .i64 els[n % els.length].n,.slice p1 els[n % els.length].keys.length q1,.slice p2 els[n % els.length].kids.length q2]) rfl rfl rfl rfl rfl rfl rfl rfl Ev.rM (Src.lit Ev.hM rfl) rfl rfl rfl Ev.wM Ev.wM rfl rfl rfl fun v51=>?_
  refine Wk.dropr (.keep (.drop (Sub.refl _))) ?_
  repeat first|refine go ?_|with_reducible intro _
  refine Wk.inv ⟨_,by omega,i+1,v51,kz++[els[n % els.length]],_,hit,rfl,hz.trans hz2,ElRL.snoc hR (hk3.mono hz2),by simp;omega,fun x=>?_,by rw [←hln,List.length_append];rfl,Ev.kM⟩
  rw [hmem3 x,List.mem_append,List.mem_singleton]
  exact ⟨.inl,fun q=>q.elim id fun e=>by rw [e];exact (hmem3 _).1 hel2⟩
 ·clear hc
  repeat first|refine go ?_|with_reducible intro _
  refine Wk.inv ⟨_,by omega,i+1,vk,kz,us2,hit,rfl,hz,hk3,by omega,hmem3,by rw [hln],Ev.kM⟩
end Go.Proofs.J
namespace Go.Proofs.J
open Go Go.Ev
theorem wt_by8 {Z:Zone} {d:Nat} {cs:List Value} (h:Wt Tryz.prog Z d 61 cs):∃ v xs,cs=[v]∧Sl Z 1 v xs.length (by8 xs)∧∀ x∈xs,0≤x∧x≤255:=by
 cases d with
 | zero=>exact h.elim
 | succ d =>
  simp only [Wt,Tryz.underlying61,c5] at h
  obtain ⟨v,m,vs,rfl,hs,_,hw⟩:=h
  have hl:=hs.length
  obtain ⟨l,hl2⟩:=list_of (R:=fun x a=>x=Value.int .u8 a∧(0≤a∧a≤255)) vs fun i hi=>by
   have:=hw i Ev.wM
   cases d with
   | zero=>exact this.elim
   | succ d =>
    simp only [Wt,Tryz.underlying5] at this
    obtain ⟨n,e,k⟩:=this
    exact ⟨_,n,drop1 e,rfl,wf_u8 k⟩
  have e:=ints_of (hl2.mono fun a b h=>h.1)
  have hb:∀ x∈l,0≤x∧x≤255:=by
   clear hs hw hl e
   induction hl2 with
   | nil=>simp
   | cons h _ ih=>intro x hx;rcases List.mem_cons.1 hx with rfl|hx;exact h.2;exact ih x hx
  subst e
  refine ⟨v,l,rfl,?_,hb⟩
  have:m=l.length:=by simp at hl;omega
  subst this
  exact hs
theorem wtv_by8 {Z:Zone} {v:Value} (h:WtV Tryz.prog Z 61 v):∃ xs:List Int,Sl Z 1 v xs.length (by8 xs)∧∀ x∈xs,0≤x∧x≤255:=by
 obtain ⟨⟨d,w⟩,s⟩:=h
 obtain ⟨v',xs,e,hR,hb⟩:=wt_by8 w
 rw [Tryz.underlying61] at s
 have s':cellsL v=[v]:=s
 rw [s'] at e
 have:v'=v:=(List.cons.inj e).1.symm
 subst this
 exact ⟨xs,hR,hb⟩
theorem shuffled_law (Z:Zone) (xs:List Value) (h:All2 (fun a t=>WtV Tryz.prog Z t a) xs [27,29,61]):Cz M (.func (.func 11) #[] #[]) xs Z [] (fun v _ _=>v=.bool true):=by
 cases h with
 | cons h1 h =>
  cases h with
  | cons h2 h =>
   cases h with
   | cons h3 h =>
    cases h
    obtain ⟨c1,l,rfl,r1⟩:=wtv_lat h1
    obtain ⟨els,d,he,hn,hf⟩:=wtv_elems h2
    obtain ⟨bs,hb,hb2⟩:=wtv_by8 h3
    exact ElemShuffled r1 he hn hf hb hb2
end Go.Proofs.J
