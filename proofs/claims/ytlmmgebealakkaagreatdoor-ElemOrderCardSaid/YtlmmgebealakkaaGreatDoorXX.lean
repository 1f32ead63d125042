/- XX -/
import Derived.Test.YtlmmgebealakkaaGreatDoorHU
import Derived.Test.YtlmmgebealakkaaGreatDoorFA
import Derived.Test.YtlmmgebealakkaaGreatDoorPL
import Derived.Test.YtlmmgebealakkaaGreatDoorHK
import Derived.Test.YtlmmgebealakkaaGreatDoorWT
import Derived.Test.YtlmmgebealakkaaGreatDoorEvF
set_option linter.unusedVariables false
set_option linter.unusedSimpArgs false
set_option maxHeartbeats 4000000
set_option maxRecDepth 100000
namespace Go.Proofs.J
open Go.Ev Go
end Go.Proofs.J
namespace Go.Proofs.J
open Go.Ev Go
end Go.Proofs.J
namespace Go.Proofs.J
open Go.Ev Go
end Go.Proofs.J
namespace Go.Proofs.J
open Go.Ev Go
end Go.Proofs.J
namespace Go.Proofs.J
open Go.Ev Go
end Go.Proofs.J
namespace Go.Proofs.J
open Go.Ev Go
def Gd (l:Lat) (e:El):Prop:=IsW l.1 4 l.2 e∧¬ e.Great
structure LOk (l:Lat):Prop where
 th:l.Th
 ok:CSE l.1 l.2=0
theorem LOk.T {l:Lat} (h:LOk l):TsOk l.1:=(CSE_ok h.th h.ok).1
theorem ElsE_gd {l:Lat} {els:List El} (h:LOk l) (k:∀ e∈els,Gd l e):ElsE l els=0:=by
 unfold ElsE
 rw [if_neg (by rw [h.ok];simp),if_pos]
 intro i hi
 exact IsE_iff.2 (k _ (List.getElem_mem hi))
theorem gd_ElsE {l:Lat} {els:List El} (ht:l.Th) (h:ElsE l els=0):LOk l∧∀ e∈els,Gd l e:=⟨⟨ht,(ElsE_zero h).1⟩,(ElsE_zero h).2⟩
theorem Gd.fit {l:Lat} {e:El} (h:LOk l) (k:Gd l e):e.Fit 4:=k.1.fit h.T.ok k.2
theorem Gd.bot {l:Lat}:Gd l El.bot:=⟨IsW.bot,bot_not_great⟩
theorem right_S {Z:Zone} {cl:List Value} {ve:Value} {l:Lat} {els:List El} {d:Nat} (hl:LatR Z cl l) (he:ElsR Z ve els) (hn:els.length≤2199023255552) (hd:∀ i (h:i < els.length),(els[i]).Fit d) :
  Cz M (.func (.func 34) #[] #[]) [.agg ⟨cl⟩,ve] Z [] (fun v' Z' A'=>(∃ b,v'=.bool b∧(b=true→(LOk l∧∀ e∈els,Gd l e)∧∀ e∈els,e.sz≤200))∧Z=Z'∧A'=[]):=by
 have hl0:=hl
 have he0:=he
 obtain ⟨l1,l2,l3,l4,rfl,hT,hS⟩:=hl.form
 obtain ⟨ae,ce,rfl⟩:=he.form
 refine Cz.fn (f:=Tryz.f34) Ev.cM rfl rfl rfl _ rfl ?_
 repeat first|refine go ?_|with_reducible intro _
 rename_i b2
 refine Wk.call rfl rfl (Spl.none _) (thinLatS hl0 he0 hn hd) Ev.cM rfl rfl ?_
 rintro v' Z' A' hz ⟨⟨b,rfl,hb⟩,rfl,rfl⟩
 cases b with
 | false =>
  repeat first|refine go ?_|with_reducible intro _
  refine Wk.ret ⟨_,Rs.tmp rfl Rs.nil,_,Sub.none _,⟨false,rfl,fun h=>by cases h⟩,rfl,rfl⟩
 | true =>
 obtain ⟨ht,hs⟩:=hb rfl
 repeat first|refine go ?_|with_reducible intro _
 refine Wk.call rfl rfl (Spl.none _) (rCheckEls hl0 ht he0 hn hd) Ev.cM rfl rfl ?_
 rintro v' Z' A' hz ⟨rfl,rfl,rfl⟩
 repeat first|refine go ?_|with_reducible intro _
 refine Wk.ret ⟨_,Rs.tmp rfl Rs.nil,_,Sub.none _,⟨_,rfl,fun h=>⟨gd_ElsE ht (by simpa using h),fun e he=>by obtain ⟨i,hi,rfl⟩:=List.getElem_of_mem he;exact hs i hi hi⟩⟩,rfl,rfl⟩
end Go.Proofs.J
namespace Go.Proofs.J
open Go.Ev Go
theorem pack_sz {ts:List Tbl} (hmax:∀ (t:Tbl) (m:Nat) {s:ByteArray},Tof ts s t→m < t.elems.length→m≤1000000000):∀ (d:Nat) {dd:Nat} {s:Shp} {e:El},d≤16→IsW ts dd s e→¬ e.Great→e.Fit d→e.sz≤200→((packE e).length:Int)≤13*e.sz
 | 0,dd,s,e,hd,h,g,hf,hs=>hf.pos.elim
 | d+1,0,s,e,hd,h,g,hf,hs=>absurd h (by simp [IsW])
 | d+1,dd+1,s,e,hd,h,g,hf,hs=>by
  have hp:=sz_fit (d+1) hf hd
  obtain ⟨h1,h2⟩:=sz_sum hf hd hs
  rw [El.Great_iff,not_or] at g
  by_cases nb:e=El.bot
  ·subst nb;rw [packE_0];simp;omega
  have kid:∀ {k:Shp} {x:El},x∈e.kids→IsW ts dd k x→((packE x).length:Int)≤13*x.sz:=fun {k x} hx hw=>by
   have q1:=h2 x hx
   have q2:(0:Int)≤e.keys.length:=by omega
   exact pack_sz hmax d Ev.wM hw (fun r=>g.2 ⟨x,hx,r⟩) (hf.mem hx) Ev.wM
  rcases h.kinds nb with q|q|q|q|q|q|q
  ·obtain rfl:=h.inv1 nb q;rw [packE_1];simp;omega
  ·obtain ⟨m,hm,rfl⟩:=h.inv2 nb q
   rw [packE_2];have:=numB_len hm;simp only [List.length_cons];omega
  ·rcases h.inv4 nb q with ⟨m,hm,rfl⟩|rfl
   ·rw [packE_2];have:=numB_len hm;simp only [List.length_cons];omega
   ·rw [packE_3];simp;omega
  ·obtain ⟨t,m,ht,m1,m2,rfl⟩:=h.inv5 nb q
   rw [packE_4,Int.toNat_natCast]
   have:=countB_len 5 m (by show m < 34359738368;have:=hmax t m ht m2;omega)
   simp only [List.length_cons];omega
  ·obtain ⟨ks,hks,rfl⟩:=h.inv3 nb q
   rw [packE_5]
   have h40:ks.length≤40:=by have:=g.1;simp only [El.keys] at this;omega
   have:=flat_len hks.num
   have:=countB_len 5 ks.length (by show ks.length < 34359738368;omega)
   simp only [El.keys,El.kids,sumSz] at h1
   simp only [List.length_cons,List.length_append];omega
  ·obtain ⟨k0,ks,l,hk0,hks,hl,hx,rfl⟩:=h.inv6 nb q
   rw [packE_6]
   have h40:ks.length≤40:=by have:=g.1;simp only [El.keys] at this;omega
   have:=countB_len 5 ks.length (by show ks.length < 34359738368;omega)
   have key:∀ (ks:List Int) (l:List El),(∀ k∈ks,NumOk k)→(∀ x∈l,1≤x.sz∧((packE x).length:Int)≤13*x.sz)→((packKs ks l).length:Int)≤6*(ks.length:Int)+13*sumSz l:=by
    intro ks
    induction ks with
    | nil=>intro l _ h3;have:=sumSz_pos fun x hx=>(h3 x hx).1;cases l<;>simp [packKs]<;>omega
    | cons z ks ih =>
     intro l h3 h4
     cases l with
     | nil=>simp [packKs,sumSz];omega
     | cons x l =>
      have a1:=numB_len (h3 z (List.mem_cons_self ..))
      have a2:=(h4 x (List.mem_cons_self ..)).2
      have a3:=ih l (fun k hk=>h3 k (List.mem_cons_of_mem _ hk)) (fun y hy=>h4 y (List.mem_cons_of_mem _ hy))
      rw [packKs,sumSz]
      simp only [List.length_append,List.length_cons]
      omega
   have h5:=key ks l hks.num fun x hx0=>⟨(h2 x hx0).1,kid hx0 (hx x hx0).2⟩
   simp only [El.keys,El.kids] at h1
   simp only [List.length_cons,List.length_append];omega
  ·obtain ⟨k0,k1,x,y,hk0,hk1,hx,hy,hn,rfl⟩:=h.inv7 nb q
   rw [packE_7]
   have a1:=kid (by simp [El.kids]) hx
   have a2:=kid (by simp [El.kids]) hy
   simp only [El.keys,El.kids,sumSz,List.length_nil] at h1
   simp only [List.length_cons,List.length_append];omega
theorem countB_b:∀ (n:Nat),∀ x∈countB n,0≤x∧x≤255:=by
 intro n
 induction n using Nat.strongRecOn with
 | _ n ih =>
  rw [countB]
  split
  ·intro x hx;rw [List.mem_singleton.1 hx];omega
  ·intro x hx
   rcases List.mem_cons.1 hx with rfl|hx
   ·omega
   ·exact ih (n / 128) Ev.wM x hx
theorem flat_b (l:List Int):∀ x∈l.flatMap numB,0≤x∧x≤255:=fun x hx=>by
 obtain ⟨y,_,h⟩:=List.mem_flatMap.1 hx
 exact countB_b _ x h
theorem app_b {a b:List Int} (h:∀ x∈a,0≤x∧x≤255) (k:∀ x∈b,0≤x∧x≤255):∀ x∈a++b,0≤x∧x≤255:=fun x hx=>(List.mem_append.1 hx).elim (h x) (k x)
theorem cons_b {z:Int} {b:List Int} (h:0≤z∧z≤255) (k:∀ x∈b,0≤x∧x≤255):∀ x∈z::b,0≤x∧x≤255:=fun x hx=>by
 rcases List.mem_cons.1 hx with rfl|hx
 ·exact h
 ·exact k x hx
theorem pack_b {ts:List Tbl}:∀ {d:Nat} {s:Shp} {e:El},IsW ts d s e→∀ x∈packE e,0≤x∧x≤255
 | 0,s,e,h=>absurd h (by simp [IsW])
 | d+1,s,e,h=>by
  by_cases nb:e=El.bot
  ·subst nb;rw [packE_0];exact cons_b (by decide) (by simp)
  rcases h.kinds nb with q|q|q|q|q|q|q
  ·rw [h.inv1 nb q,packE_1];exact cons_b (by decide) (by simp)
  ·obtain ⟨m,hm,rfl⟩:=h.inv2 nb q
   rw [packE_2];exact cons_b (by decide) (countB_b _)
  ·rcases h.inv4 nb q with ⟨m,hm,rfl⟩|rfl
   ·rw [packE_2];exact cons_b (by decide) (countB_b _)
   ·rw [packE_3];exact cons_b (by decide) (by simp)
  ·obtain ⟨t,m,ht,m1,m2,rfl⟩:=h.inv5 nb q
   rw [packE_4];exact cons_b (by decide) (countB_b _)
  ·obtain ⟨ks,hks,rfl⟩:=h.inv3 nb q
   rw [packE_5];exact cons_b (by decide) (app_b (countB_b _) (flat_b _))
  ·obtain ⟨k0,ks,l,hk0,hks,hl,hx,rfl⟩:=h.inv6 nb q
   rw [packE_6]
   have key:∀ (ks:List Int) (l:List El),(∀ x∈l,IsW ts d k0 x)→∀ x∈packKs ks l,0≤x∧x≤255:=by
    intro ks
    induction ks with
    | nil=>intro l _;cases l<;>simp [packKs]
    | cons z ks ih =>
     intro l h4
     cases l with
     | nil=>simp [packKs]
     | cons x l =>
      rw [packKs]
      exact app_b (countB_b _) (app_b (pack_b (h4 x (List.mem_cons_self ..))) (ih l fun y hy=>h4 y (List.mem_cons_of_mem _ hy)))
   exact cons_b (by decide) (app_b (countB_b _) (key ks l fun x hx0=>(hx x hx0).2))
  ·obtain ⟨k0,k1,x,y,hk0,hk1,hx,hy,hn,rfl⟩:=h.inv7 nb q
   rw [packE_7];exact cons_b (by decide) (app_b (pack_b hx) (pack_b hy))
theorem strOf_inj:∀ {a b:List Int},(∀ x∈a,0≤x∧x≤255)→(∀ x∈b,0≤x∧x≤255)→strOf a=strOf b→a=b:=by
 intro a b ha hb h
 have h1:(a.map fun n=>UInt8.ofNat n.toNat)=b.map fun n=>UInt8.ofNat n.toNat:=by
  have:(strOf a).data.toList=(strOf b).data.toList:=by rw [h]
  simpa [strOf] using this
 clear h
 induction a generalizing b with
 | nil=>cases b with
  | nil=>rfl
  | cons y b=>simp at h1
 | cons x a ih =>
  cases b with
  | nil=>simp at h1
  | cons y b =>
   simp only [List.map_cons,List.cons.injEq] at h1
   have hx:=ha x (List.mem_cons_self ..)
   have hy:=hb y (List.mem_cons_self ..)
   have e:x=y:=by
    have:=congrArg UInt8.toNat h1.1
    simp only [UInt8.toNat_ofNat'] at this
    omega
   rw [e,ih (fun z hz=>ha z (List.mem_cons_of_mem _ hz)) (fun z hz=>hb z (List.mem_cons_of_mem _ hz)) h1.2]
theorem BtE_gd {l:Lat} {e:El} (h:LOk l) (g:Gd l e) (hs:e.sz≤200):BtE l e=0∧BtB l e=packE e:=by
 have h0:ElsE l [e]=0:=ElsE_gd h fun x hx=>by rw [List.mem_singleton.1 hx];exact g
 have:=pack_sz (fun t m s ht hm=>by have:=tof_max (CSE_zero h.ok).2.1 t m ht hm;omega) 4 Ev.wM g.1 g.2 (g.fit h) hs
 have e0:BtE l e=0:=by
  unfold BtE
  rw [if_neg (fun k=>k h0),if_neg Ev.wM]
 exact ⟨e0,by unfold BtB;rw [if_pos e0]⟩
theorem str_pack {l:Lat} {a b:El} (ga:Gd l a) (gb:Gd l b):strOf (packE a)=strOf (packE b)↔a=b:=by
 refine ⟨fun h=>?_,fun h=>by rw [h]⟩
 have h1:=strOf_inj (pack_b ga.1) (pack_b gb.1) h
 exact (pack_pre (r:=[]) (r':=[]) ga.1 gb.1 (by rw [h1])).1
end Go.Proofs.J
namespace Go.Proofs.J
open Go.Ev Go
theorem ElsR_three {Z:Zone} {b:Nat} {x y z:El} {cx cy cz:List Value} (hx:ElR Z x cx) (hy:ElR Z y cy) (hz:ElR Z z cz) (hb:Z b=some (.cells (cx++(cy++cz)) true 0)):ElsR Z (.slice (some ⟨b,0,none⟩) 3 3) [x,y,z]:=by
 have hL:=ElRL.snoc hz (ElRL.snoc hy (ElRL.snoc hx (l:=[]) (us:=[]) (by simp [ElRL])))
 have hl:=hL.length
 refine ⟨_,.inr ⟨b,0,3,_,_,_,rfl,Nat.le_refl _,hb,?_,.inl rfl⟩,hL⟩
 unfold getCells
 simp only [List.nil_append,List.length_append,List.length_cons,List.length_nil] at hl
 rw [if_pos (by simp;omega)]
 rw [List.drop_zero,List.take_of_length_le (by simp;omega)]
 simp
theorem Fit3 {x y z:El} {d:Nat} (fx:x.Fit d) (fy:y.Fit d) (fz:z.Fit d):∀ i (h:i < [x,y,z].length),([x,y,z][i]).Fit d:=by
 intro i h
 rcases (by simp at h;omega:i=0∨i=1∨i=2) with rfl|rfl|rfl
 ·exact fx
 ·exact fy
 ·exact fz
end Go.Proofs.J
namespace Go.Proofs.J
open Go.Ev Go
theorem less_ {d d':Nat} {Z:Zone} {ca cb:List Value} {a b:El} (ha:ElR Z a ca) (hb:ElR Z b cb) (fa:a.Fit d) (fb:b.Fit d') :
  Cz M (.func (.func 26) #[] #[]) [.agg ⟨ca⟩,.agg ⟨cb⟩] Z [] (fun v' Z' A'=>v'=.bool (decide (cmpE a b < 0))∧Z=Z'∧A'=[]):=by
 obtain ⟨q1,q2,q3,q4,ua,rfl,ak,as_,aL⟩:=ha.form
 obtain ⟨r1,r2,r3,r4,ub,rfl,bk,bs_,bL⟩:=hb.form
 refine Cz.fn (f:=Tryz.f26) Ev.cM rfl rfl rfl _ rfl ?_
 repeat first|refine go ?_|with_reducible intro _
 refine Wk.call rfl rfl (Spl.none _) (compareE d d' ha hb fa fb) rfl rfl rfl ?_
 rintro v' Z' A' hz ⟨rfl,rfl,rfl⟩
 repeat first|refine go ?_|with_reducible intro _
 refine Wk.ret ⟨_,Rs.tmp rfl Rs.nil,_,Sub.none _,by simp [outOf],rfl,rfl⟩
end Go.Proofs.J
namespace Go.Proofs.J
open Go.Ev Go
end Go.Proofs.J
namespace Go.Proofs.J
open Go.Ev Go
theorem ElemOrder {Z:Zone} {cl ca cb cd:List Value} {l:Lat} {a b c:El} {d:Nat} (hl:LatR Z cl l) (ha:ElR Z a ca) (hb:ElR Z b cb) (hd:ElR Z c cd) (fa:a.Fit d) (fb:b.Fit d) (fc:c.Fit d) :
  Cz M (.func (.func 13) #[] #[]) [.agg ⟨cl⟩,.agg ⟨ca++(cb++cd)⟩] Z [] (fun v' Z' A'=>v'=.bool true):=by
 have hl0:=hl
 have ha0:=ha
 have hb0:=hb
 have hd0:=hd
 obtain ⟨l1,l2,l3,l4,rfl,hT,hS⟩:=hl.form
 obtain ⟨q1,q2,q3,q4,ua,rfl,ak,as_,aL⟩:=ha.form
 obtain ⟨r1,r2,r3,r4,ub,rfl,bk,bs_,bL⟩:=hb.form
 obtain ⟨s1,s2,s3,s4,ud,rfl,dk,ds_,dL⟩:=hd.form
 simp only [List.cons_append,List.nil_append]
 clear hl ha hb hd hT hS ak as_ aL bk bs_ bL dk ds_ dL
 refine Cz.fn (f:=Tryz.f13) Ev.cM rfl rfl rfl _ rfl ?_
 repeat first|refine go ?_|with_reducible intro _
 refine Wk.bs (cs:=[.int .u8 a.kind,.int .i64 a.n,.slice q1 a.keys.length q2,.slice q3 a.kids.length q4,.int .u8 b.kind,.int .i64 b.n,.slice r1 b.keys.length r2,.slice r3 b.kids.length r4,.int .u8 c.kind,.int .i64 c.n,.slice s1 c.keys.length s2,.slice s3 c.kids.length s4]) rfl rfl rfl rfl rfl rfl rfl fun b9=>?_
 first|refine Wk.freezer Rem.head fun Z1 e1 h9=>?_|refine Wk.freeze Rem.head fun Z1 e1 h9=>?_
 replace hl0:=hl0.mono e1
 replace ha0:=ha0.mono e1
 replace hb0:=hb0.mono e1
 replace hd0:=hd0.mono e1
 repeat first|refine go ?_|with_reducible intro _
 refine Wk.call rfl rfl (Spl.none _) (right_S hl0 (ElsR_three ha0 hb0 hd0 h9) (by simp) (Fit3 fa fb fc)) Ev.cM rfl rfl ?_
 rintro v' Z' A' hz ⟨⟨bb,rfl,hbb⟩,rfl,rfl⟩
 cases bb with
 | false =>
  repeat first|refine go ?_|with_reducible intro _
  refine Wk.call rfl rfl (Spl.none _) ((Cz.ora rfl)) rfl rfl rfl ?_
  rintro v' Z' A' hz ⟨rfl,rfl,rfl⟩
  repeat first|refine go ?_|with_reducible intro _
  exact Wk.ret ⟨_,Rs.tmp rfl Rs.nil,_,Sub.none _,rfl⟩
 | true =>
 obtain ⟨⟨h,hg⟩,hs⟩:=hbb rfl
 have ga:=hg a (by simp)
 have gb:=hg b (by simp)
 have gc:=hg c (by simp)
 have ea:=BtE_gd h ga (hs a (by simp))
 have eb:=BtE_gd h gb (hs b (by simp))
 have f1:=ga.fit h
 have f2:=gb.fit h
 clear hbb hg h9 hs
 have hstr0:=str_pack ga gb
 repeat first|refine go ?_|with_reducible intro _
 refine Wk.drawr (ms:=[0,1,0,4,15,0,32,0,128,511,0,1024,0,4096,16383,0,32768,0,131072,524287,1048575,2097151,4194303,8388607]) (l:=[0,1,2,3,5,6,7,8,10,11,12,13,15,16,17,18,4,9,14,19,20,21,22,23]) Ev.cM Ev.cM Ev.cM rfl ?_
 repeat first|refine go ?_|with_reducible intro _
 refine Wk.callD rfl rfl (Spl.none _) (less_ ha0 hb0 fa fb) rfl rfl fun _ _ A' hz2 hq=>?_
 obtain ⟨rfl,rfl,rfl⟩:=hq
 refine ⟨?_,?_⟩
 ·exact Ev.pM3
 repeat first|refine go ?_|with_reducible intro _
 refine Wk.callD rfl rfl (Spl.none _) (less_ hb0 ha0 fb fa) rfl rfl fun _ _ A' hz2 hq=>?_
 obtain ⟨rfl,rfl,rfl⟩:=hq
 refine ⟨?_,?_⟩
 ·exact Ev.pM3
 repeat first|refine go ?_|with_reducible intro _
 refine Wk.callD rfl rfl (Spl.none _) (less_ hb0 hd0 fb fc) rfl rfl fun _ _ A' hz2 hq=>?_
 obtain ⟨rfl,rfl,rfl⟩:=hq
 refine ⟨?_,?_⟩
 ·exact Ev.pM3
 repeat first|refine go ?_|with_reducible intro _
 refine Wk.callD rfl rfl (Spl.none _) (less_ ha0 hd0 fa fc) rfl rfl fun _ _ A' hz2 hq=>?_
 obtain ⟨rfl,rfl,rfl⟩:=hq
 refine ⟨?_,?_⟩
 ·exact Ev.pM3
 repeat first|refine go ?_|with_reducible intro _
 have tab:=cmpE_three a b
 have tba:=cmpE_turn a b
 have tr:=cmpE_tr a b c
 have t0:=cmpE_zero (a:=a) (b:=b)
 have wab:(decide (cmpE a b < 0)=true↔cmpE a b=-1)∧(decide (cmpE b a < 0)=true↔cmpE a b=1)∧(decide (cmpE a b < 0)=true→decide (cmpE b c < 0)=true→decide (cmpE a c < 0)=true):=by
  simp only [decide_eq_true_eq]
  refine ⟨by omega,by omega,fun x y=>?_⟩
  have t3:=cmpE_three b c
  have:=tr.1 Ev.wM Ev.wM
  omega
 revert wab
 generalize decide (cmpE a b < 0)=xab
 generalize decide (cmpE b a < 0)=xba
 generalize decide (cmpE b c < 0)=xbc
 generalize decide (cmpE a c < 0)=xac
 intro wab
 refine Wk.call rfl rfl (Spl.none _) (sameEl _ f1 ha0 hb0) Ev.cM rfl rfl ?_
 rintro v' Z' A' hz ⟨⟨sa,rfl,hsa⟩,rfl,rfl⟩
 repeat first|refine go ?_|with_reducible intro _
 refine Wk.drawr (ms:=[0,1,0,4,15,31,63,127,127,255,1023]) (l:=[0,2,3,1,4,5,6,7,8,9,10]) Ev.cM Ev.cM Ev.cM rfl ?_
 repeat first|refine go ?_|with_reducible intro _
 refine Wk.callD rfl rfl (Spl.none _) (copyLattice hl0 h.th) rfl rfl fun v1 Z2 A' hz2 hq=>?_
 obtain ⟨c1,rfl,hL2,rfl⟩:=hq
 refine ⟨?_,?_⟩
 ·exact Ev.pM3
 replace hl0:=hl0.mono hz2
 replace ha0:=ha0.mono hz2
 replace hb0:=hb0.mono hz2
 replace hd0:=hd0.mono hz2
 repeat first|refine go ?_|with_reducible intro _
 refine Wk.callD rfl rfl (Spl.none _) (copyEl 4 f1 ha0) rfl rfl fun v1 Z3 A' hz3 hq=>?_
 obtain ⟨c2,rfl,hA2,rfl⟩:=hq
 refine ⟨?_,?_⟩
 ·exact Ev.pM3
 replace hl0:=hl0.mono hz3
 replace ha0:=ha0.mono hz3
 replace hb0:=hb0.mono hz3
 replace hd0:=hd0.mono hz3
 repeat first|refine go ?_|with_reducible intro _
 refine Wk.callD rfl rfl (Spl.none _) (eBytes (hL2.mono hz3) h.th hA2 f1) rfl rfl fun v1 Z4 A' hz4 hq=>?_
 obtain ⟨wa,rfl,rfl,hwa⟩:=hq
 refine ⟨?_,?_⟩
 ·exact Ev.pM3
 replace hl0:=hl0.mono hz4
 replace ha0:=ha0.mono hz4
 replace hb0:=hb0.mono hz4
 replace hd0:=hd0.mono hz4
 rw [(ea).1]
 rw [(ea).2] at hwa
 repeat first|refine go ?_|with_reducible intro _
 refine Wk.drawr (ms:=[0,1,0,4,15,31,63,127,127,255,1023]) (l:=[0,2,3,1,4,5,6,7,8,9,10]) Ev.cM Ev.cM Ev.cM rfl ?_
 repeat first|refine go ?_|with_reducible intro _
 refine Wk.callD rfl rfl (Spl.none _) (copyLattice hl0 h.th) rfl rfl fun v1 Z2 A' hz2 hq=>?_
 obtain ⟨c5,rfl,hL2,rfl⟩:=hq
 refine ⟨?_,?_⟩
 ·exact Ev.pM3
 replace hl0:=hl0.mono hz2
 replace ha0:=ha0.mono hz2
 replace hb0:=hb0.mono hz2
 replace hd0:=hd0.mono hz2
 repeat first|refine go ?_|with_reducible intro _
 refine Wk.callD rfl rfl (Spl.none _) (copyEl 4 f2 hb0) rfl rfl fun v1 Z3 A' hz3 hq=>?_
 obtain ⟨c2,rfl,hA2,rfl⟩:=hq
 refine ⟨?_,?_⟩
 ·exact Ev.pM3
 replace hl0:=hl0.mono hz3
 replace ha0:=ha0.mono hz3
 replace hb0:=hb0.mono hz3
 replace hd0:=hd0.mono hz3
 repeat first|refine go ?_|with_reducible intro _
 refine Wk.callD rfl rfl (Spl.none _) (eBytes (hL2.mono hz3) h.th hA2 f2) rfl rfl fun v1 Z4 A' hz4 hq=>?_
 obtain ⟨wb,rfl,rfl,hwb⟩:=hq
 refine ⟨?_,?_⟩
 ·exact Ev.pM3
 replace hl0:=hl0.mono hz4
 replace ha0:=ha0.mono hz4
 replace hb0:=hb0.mono hz4
 replace hd0:=hd0.mono hz4
 rw [(eb).1]
 rw [(eb).2] at hwb
 repeat first|refine go ?_|with_reducible intro _
 replace hwa:=hwa.mono (hz2.trans (hz3.trans hz4))
 obtain ⟨wab1,wab2,wab3⟩:=wab
 cases sa with
 | true =>
  have z0:=t0.2 (hsa.1 rfl)
  have hstr:((strOf (packE a)).toList==(strOf (packE b)).toList)=true:=strEq.2 (by rw [hsa.1 rfl])
  obtain rfl:xab=false:=Bool.eq_false_iff.2 fun q=>by have:=wab1.1 q;omega
  obtain rfl:xba=false:=Bool.eq_false_iff.2 fun q=>by have:=wab2.1 q;omega
  repeat first|refine go ?_|with_reducible intro _
  refine Wk.v rfl rfl rfl (Rd.str rfl rfl rfl rfl hwa) ?_
  repeat first|refine go ?_|with_reducible intro _
  refine Wk.v rfl rfl rfl (Rd.str rfl rfl rfl rfl hwb) ?_
  refine Wk.bin (v:=.bool true) rfl rfl (Eq.trans (b:=some (Value.bool ((strOf (packE a)).toList==(strOf (packE b)).toList))) rfl (by rw [hstr])) rfl rfl ?_
  repeat first|refine go ?_|with_reducible intro _
  refine Wk.call rfl rfl (Spl.none _) ((Cz.ora rfl)) rfl rfl rfl ?_
  rintro v' Z' A' hz ⟨rfl,rfl,rfl⟩
  repeat first|refine go ?_|with_reducible intro _
  exact Wk.ret ⟨_,Rs.tmp rfl Rs.nil,_,Sub.none _,rfl⟩
 | false =>
  have ne:a≠b:=fun q=>by have:=hsa.2 q;cases this
  have hstr:((strOf (packE a)).toList==(strOf (packE b)).toList)=false:=Bool.eq_false_iff.2 fun q=>ne (hstr0.1 (strEq.1 q))
  have n0:cmpE a b≠0:=fun q=>ne (t0.1 q)
  by_cases lt:cmpE a b=-1
  ·obtain rfl:xab=true:=wab1.2 lt
   obtain rfl:xba=false:=Bool.eq_false_iff.2 fun q=>by have:=wab2.1 q;omega
   cases xbc with
   | false =>
    repeat first|refine go ?_|with_reducible intro _
    refine Wk.v rfl rfl rfl (Rd.str rfl rfl rfl rfl hwa) ?_
    repeat first|refine go ?_|with_reducible intro _
    refine Wk.v rfl rfl rfl (Rd.str rfl rfl rfl rfl hwb) ?_
    refine Wk.bin (v:=.bool false) rfl rfl (Eq.trans (b:=some (Value.bool ((strOf (packE a)).toList==(strOf (packE b)).toList))) rfl (by rw [hstr])) rfl rfl ?_
    repeat first|refine go ?_|with_reducible intro _
    refine Wk.call rfl rfl (Spl.none _) ((Cz.ora rfl)) rfl rfl rfl ?_
    rintro v' Z' A' hz ⟨rfl,rfl,rfl⟩
    repeat first|refine go ?_|with_reducible intro _
    exact Wk.ret ⟨_,Rs.tmp rfl Rs.nil,_,Sub.none _,rfl⟩
   | true =>
    obtain rfl:xac=true:=wab3 rfl rfl
    repeat first|refine go ?_|with_reducible intro _
    refine Wk.v rfl rfl rfl (Rd.str rfl rfl rfl rfl hwa) ?_
    repeat first|refine go ?_|with_reducible intro _
    refine Wk.v rfl rfl rfl (Rd.str rfl rfl rfl rfl hwb) ?_
    refine Wk.bin (v:=.bool false) rfl rfl (Eq.trans (b:=some (Value.bool ((strOf (packE a)).toList==(strOf (packE b)).toList))) rfl (by rw [hstr])) rfl rfl ?_
    repeat first|refine go ?_|with_reducible intro _
    refine Wk.call rfl rfl (Spl.none _) ((Cz.ora rfl)) rfl rfl rfl ?_
    rintro v' Z' A' hz ⟨rfl,rfl,rfl⟩
    repeat first|refine go ?_|with_reducible intro _
    exact Wk.ret ⟨_,Rs.tmp rfl Rs.nil,_,Sub.none _,rfl⟩
  ·obtain rfl:xab=false:=Bool.eq_false_iff.2 fun q=>lt (wab1.1 q)
   obtain rfl:xba=true:=wab2.2 Ev.wM
   repeat first|refine go ?_|with_reducible intro _
   refine Wk.v rfl rfl rfl (Rd.str rfl rfl rfl rfl hwa) ?_
   repeat first|refine go ?_|with_reducible intro _
   refine Wk.v rfl rfl rfl (Rd.str rfl rfl rfl rfl hwb) ?_
   refine Wk.bin (v:=.bool false) rfl rfl (Eq.trans (b:=some (Value.bool ((strOf (packE a)).toList==(strOf (packE b)).toList))) rfl (by rw [hstr])) rfl rfl ?_
   repeat first|refine go ?_|with_reducible intro _
   refine Wk.call rfl rfl (Spl.none _) ((Cz.ora rfl)) rfl rfl rfl ?_
   rintro v' Z' A' hz ⟨rfl,rfl,rfl⟩
   repeat first|refine go ?_|with_reducible intro _
   exact Wk.ret ⟨_,Rs.tmp rfl Rs.nil,_,Sub.none _,rfl⟩
end Go.Proofs.J
namespace Go.Proofs.J
open Go Go.Ev
end Go.Proofs.J
namespace Go.Proofs.J
open Go Go.Ev
theorem wtv_lat {Z:Zone} {v:Value} (h:WtV Tryz.prog Z 27 v):∃ cs l,v=.agg ⟨cs⟩∧LatR Z cs l:=by
 obtain ⟨⟨d,w⟩,s⟩:=h
 rw [Tryz.underlying27] at s
 obtain ⟨⟨cs⟩,rfl⟩:=s
 obtain ⟨l,hl⟩:=wt_lattice w
 exact ⟨cs,l,rfl,hl⟩
end Go.Proofs.J
namespace Go.Proofs.J
open Go Go.Ev
end Go.Proofs.J
namespace Go.Proofs.J
open Go Go.Ev
theorem len12 {l:List Value} (h:l.length=12):∃ a b c:List Value,a.length=4∧b.length=4∧c.length=4∧l=a++(b++c)∧(l.drop 0).take 4=a∧(l.drop 4).take 4=b∧(l.drop 8).take 4=c:=by
 refine ⟨l.take 4,(l.drop 4).take 4,(l.drop 8).take 4,by simp;omega,by simp;omega,by simp;omega,?_,rfl,rfl,rfl⟩
 have h1:(l.drop 8).take 4=l.drop 8:=List.take_of_length_le (by simp;omega)
 have h2:(l.drop 4).take 4++l.drop 8=l.drop 4:=by
  have:=List.take_append_drop 4 (l.drop 4)
  rw [List.drop_drop] at this
  exact this
 rw [h1,h2,List.take_append_drop]
theorem wtv_three {Z:Zone} {v:Value} (h:WtV Tryz.prog Z 50 v):∃ ca cb cd a b c d,v=.agg ⟨ca++(cb++cd)⟩∧ElR Z a ca∧ElR Z b cb∧ElR Z c cd∧a.In d∧b.In d∧c.In d:=by
 obtain ⟨⟨d,w⟩,s⟩:=h
 rw [Tryz.underlying50] at s
 obtain ⟨⟨cs⟩,rfl⟩:=s
 cases d with
 | zero=>exact w.elim
 | succ d =>
  simp only [Wt,Tryz.underlying50,show Tryz.prog.cellsOf 50=12 by kernel_rfl] at w
  obtain ⟨hlen,hf⟩:=w
  obtain ⟨x,y,z,hx,hy,hz,e,e1,e2,e3⟩:=len12 hlen
  have f0:=hf _ (List.Mem.head _)
  have f1:=hf _ (List.Mem.tail _ (List.Mem.head _))
  have f2:=hf _ (List.Mem.tail _ (List.Mem.tail _ (List.Mem.head _)))
  simp only [kEl,e1,e2,e3] at f0 f1 f2
  obtain ⟨a,ha,ia⟩:=wt_elem d f0
  obtain ⟨b,hb,ib⟩:=wt_elem d f1
  obtain ⟨c,hc,ic⟩:=wt_elem d f2
  exact ⟨x,y,z,a,b,c,d,by rw [show cs=x++(y++z) from e],ha,hb,hc,ia,ib,ic⟩
end Go.Proofs.J
namespace Go.Proofs.J
open Go Go.Ev
theorem order_law (Z:Zone) (xs:List Value) (h:All2 (fun a t=>WtV Tryz.prog Z t a) xs [27,50]):Cz M (.func (.func 13) #[] #[]) xs Z [] (fun v _ _=>v=.bool true):=by
 cases h with
 | cons h1 h =>
  cases h with
  | cons h2 h =>
   cases h
   obtain ⟨c1,l,rfl,r1⟩:=wtv_lat h1
   obtain ⟨ca,cb,cd,a,b,c,d,rfl,ra,rb,rc,ia,ib,ic⟩:=wtv_three h2
   exact ElemOrder r1 ra rb rc ia.fit ib.fit ic.fit
end Go.Proofs.J
