/- QI -/
import Derived.Test.YtegbiibfmabnbaaGreatQA
import Derived.Test.YtegbiibfmabnbaaGreatWT
import Derived.Test.YtegbiibfmabnbaaGreatEvF
import Derived.Test.YtegbiibfmabnbaaGreatPL
set_option linter.unusedVariables false
set_option maxHeartbeats 4000000
set_option maxRecDepth 100000
set_option linter.unusedSimpArgs false
namespace Go.Proofs.J
open Go.Ev Go
theorem check_ {Z:Zone} {cs:List Value} {d:Dq} (h:DqR Z cs d) (ho:d.owner.length≤1000) (ht:d.thieves.length≤1000) :
  Cz M (.func (.func 46) #[] #[]) [.agg ⟨cs⟩] Z [] (fun v' Z' A'=>v'=.int .i64 (DqE d)∧A'=[]):=by
 obtain ⟨a,b,c,e0,rfl,so,st⟩:=h.form
 have hpl:=pushedOf_len d.owner
 refine Cz.fn (f:=Tryz.f46) Ev.cM rfl rfl rfl _ rfl ?_
 repeat first|refine go ?_|with_reducible intro _
 rename_i b1
 first|refine Wk.freezer Rem.head fun Z1 e1 h1=>?_|refine Wk.freeze Rem.head fun Z1 e1 h1=>?_
 have so1:=so.mono e1
 have st1:=st.mono e1
 refine Wk.olNil 1 ?_
 refine Wk.loop (fun mm L Z' A'=>∃ (j:Nat) (v:Value),j≤d.owner.length∧mm=d.owner.length - j∧Z1=Z'∧A'=[ol 1 v (pushedOf (d.owner.take j)).length (nums (pushedOf (d.owner.take j)))]∧Kp L [(1,.pointer (some ⟨b1,0,none⟩)),(3,v),(8,.slice a d.owner.length b),(9,.int .i64 d.owner.length),(10,.int .i64 j)]) d.owner.length ⟨0,.slice none 0 0,Nat.zero_le _,rfl,rfl,rfl,Ev.kM⟩ ?_
 rintro mm L Z' A' - ⟨j,v,hj,rfl,rfl,rfl,hk⟩
 refine Wk.kp hk ?_
 clear hk
 refine Wk.know Ev.rM (fun s h=>ol.form (v:=v) h) ?_
 rintro ⟨av,cv,rfl⟩
 have hpj:=pushedOf_len (d.owner.take j)
 rw [List.length_take] at hpj
 repeat first|refine go ?_|with_reducible intro _
 refine Wk.cond rfl (fun hc=>?_) (fun hc=>?_)
 ·have hlt:j < d.owner.length:=by simp at hc;omega
  clear hc
  have e2:=actL_get hlt
  have hst:=pushedOf_take hlt
  repeat first|refine go ?_|with_reducible intro _
  refine Wk.cond rfl (fun hp=>?_) (fun hp=>?_)
  ·rw [if_pos hp] at hst
   repeat first|refine go ?_|with_reducible intro _
   refine Wk.bs (cs:=[.int .i64 d.owner[j].n]) rfl rfl rfl rfl rfl rfl rfl fun b19=>?_
   refine Wk.append (kk:=1) (new:=[.int .i64 d.owner[j].n]) rfl rfl rfl rfl rfl rfl rfl rfl Ev.rM (Src.lit Ev.hM rfl) rfl rfl rfl Ev.wM Ev.wM Ev.cM rfl rfl fun v20=>?_
   refine Wk.dropr (B:=[_]) (.keep (Sub.none _)) ?_
   repeat first|refine go ?_|with_reducible intro _
   refine Wk.inv ⟨_,by omega,j+1,v20,hlt,rfl,rfl,?_,Ev.kM⟩
   rw [hst,List.length_append,nums_append];rfl
  ·rw [if_neg (by simp [hp])] at hst
   refine Wk.drop (B:=[_]) (.drop (Sub.refl _)) ?_
   repeat first|refine go ?_|with_reducible intro _
   refine Wk.inv ⟨_,by omega,j+1,_,hlt,rfl,rfl,?_,Ev.kM⟩
   rw [hst]
 have hjn:j=d.owner.length:=by simp at hc;omega
 subst hjn
 clear hc hpj
 have htl:d.owner.take d.owner.length=d.owner:=List.take_length
 rw [htl]
 repeat first|refine go ?_|with_reducible intro _
 refine Wk.call rfl rfl (.l .nil) (sortOl (l:=pushedOf d.owner) Ev.wM) rfl rfl rfl ?_
 rintro v' Z' A' hz ⟨vs,⟨rfl,e,rfl,hpe,hse⟩,rfl⟩
 have hel:e.length=(pushedOf d.owner).length:=hpe.length_eq
 repeat first|refine go ?_|with_reducible intro _
 refine Wk.caser 29 rfl (fun h1'=>?_) (fun h1'=>?_)
 ·repeat first|refine go ?_|with_reducible intro _
  refine Wk.ret ⟨_,Rs.tmp rfl Rs.nil,_,Sub.none _,congrArg (Value.int .i64) ((DqE_lim fun k=>by have:=k.1;simp at h1';omega).symm),rfl⟩
 have o1:d.owner.length≤8:=by simp at h1';omega
 clear h1'
 repeat first|refine go ?_|with_reducible intro _
 refine Wk.caser 35 rfl (fun h1'=>?_) (fun h1'=>?_)
 ·repeat first|refine go ?_|with_reducible intro _
  refine Wk.ret ⟨_,Rs.tmp rfl Rs.nil,_,Sub.none _,congrArg (Value.int .i64) ((DqE_lim fun k=>by have:=k.2.1;simp at h1';omega).symm),rfl⟩
 have o2:d.thieves.length≤3:=by simp at h1';omega
 clear h1'
 repeat first|refine go ?_|with_reducible intro _
 refine Wk.call rfl rfl (Spl.none _) (anySl (fun n=>4 < n) st1 Ev.wM (fun x hx=>chk2_)) rfl rfl rfl ?_
 rintro v' Z' A' hz ⟨⟨r,rfl,hr⟩,rfl,rfl⟩
 repeat first|refine go ?_|with_reducible intro _
 refine Wk.cond rfl (fun hc=>?_) (fun hc=>?_)
 ·repeat first|refine go ?_|with_reducible intro _
  refine Wk.ret ⟨_,Rs.tmp rfl Rs.nil,_,Sub.none _,congrArg (Value.int .i64) ((DqE_lim fun k=>by obtain ⟨x,hx,hx2⟩:=hr.1 hc;have:=k.2.2 x hx;omega).symm),rfl⟩
 have lim:d.Lim:=⟨o1,o2,fun n hn=>Classical.byContradiction fun q=>by rw [hr.2 ⟨n,hn,by omega⟩] at hc;cases hc⟩
 clear hc hr
 repeat first|refine go ?_|with_reducible intro _
 refine Wk.call rfl rfl (Spl.none _) (within_) rfl rfl rfl ?_
 rintro v' Z' A' hz ⟨⟨r,rfl,hr⟩,rfl,rfl⟩
 repeat first|refine go ?_|with_reducible intro _
 refine Wk.caser 45 rfl (fun h1'=>?_) (fun h1'=>?_)
 ·repeat first|refine go ?_|with_reducible intro _
  refine Wk.ret ⟨_,Rs.tmp rfl Rs.nil,_,Sub.none _,congrArg (Value.int .i64) ((DqE_rng lim fun k=>by rw [hr.2 k.1] at h1';cases h1').symm),rfl⟩
 have g1:1≤d.size∧d.size≤4:=hr.1 (by simpa using h1')
 clear h1' hr
 repeat first|refine go ?_|with_reducible intro _
 refine Wk.call rfl rfl (Spl.none _) (within_) rfl rfl rfl ?_
 rintro v' Z' A' hz ⟨⟨r,rfl,hr⟩,rfl,rfl⟩
 repeat first|refine go ?_|with_reducible intro _
 refine Wk.caser 51 rfl (fun h1'=>?_) (fun h1'=>?_)
 ·repeat first|refine go ?_|with_reducible intro _
  refine Wk.ret ⟨_,Rs.tmp rfl Rs.nil,_,Sub.none _,congrArg (Value.int .i64) ((DqE_rng lim fun k=>by rw [hr.2 k.2.1] at h1';cases h1').symm),rfl⟩
 have g2:1≤d.room∧d.room≤8:=hr.1 (by simpa using h1')
 clear h1' hr
 repeat first|refine go ?_|with_reducible intro _
 refine Wk.call rfl rfl (.l .nil) (anyOl (l:=e) (fun n=>¬ Item n) hel Ev.wM (fun x hx=>chk1_)) rfl rfl rfl ?_
 rintro v' Z' A' hz ⟨vs,⟨⟨r,rfl,hr⟩,rfl,rfl⟩,rfl⟩
 repeat first|refine go ?_|with_reducible intro _
 refine Wk.caser 56 rfl (fun h1'=>?_) (fun h1'=>?_)
 ·repeat first|refine go ?_|with_reducible intro _
  refine Wk.ret ⟨_,Rs.tmp rfl Rs.nil,_,Sub.none _,congrArg (Value.int .i64) ((DqE_rng lim fun k=>by obtain ⟨x,hx,hx2⟩:=hr.1 h1';exact hx2 (k.2.2.1 x (hpe.mem_iff.1 hx))).symm),rfl⟩
 have g3:∀ n∈pushedOf d.owner,Item n:=fun n hn=>Classical.byContradiction fun q=>by rw [hr.2 ⟨n,hpe.mem_iff.2 hn,q⟩] at h1';cases h1'
 clear h1' hr
 repeat first|refine go ?_|with_reducible intro _
 refine Wk.call rfl rfl (Spl.none _) (anySl (fun n=>n < 0) st1 Ev.wM (fun x hx=>chk3_)) rfl rfl rfl ?_
 rintro v' Z' A' hz ⟨⟨r,rfl,hr⟩,rfl,rfl⟩
 repeat first|refine go ?_|with_reducible intro _
 refine Wk.cond rfl (fun hc=>?_) (fun hc=>?_)
 ·repeat first|refine go ?_|with_reducible intro _
  refine Wk.ret ⟨_,Rs.tmp rfl Rs.nil,_,Sub.none _,congrArg (Value.int .i64) ((DqE_rng lim fun k=>by obtain ⟨x,hx,hx2⟩:=hr.1 hc;have:=k.2.2.2 x hx;omega).symm),rfl⟩
 have rng:d.Rng:=⟨g1,g2,g3,fun n hn=>Classical.byContradiction fun q=>by rw [hr.2 ⟨n,hn,by omega⟩] at hc;cases hc⟩
 clear hc hr
 repeat first|refine go ?_|with_reducible intro _
 refine Wk.call rfl rfl (Spl.none _) (anyAct (fun a=>¬ (a.push=true∨a.n=0)) so1 Ev.wM (fun x hx=>chk4_)) rfl rfl rfl ?_
 rintro v' Z' A' hz ⟨⟨r,rfl,hr⟩,rfl,rfl⟩
 repeat first|refine go ?_|with_reducible intro _
 refine Wk.cond rfl (fun hc=>?_) (fun hc=>?_)
 ·repeat first|refine go ?_|with_reducible intro _
  refine Wk.ret ⟨_,Rs.tmp rfl Rs.nil,_,Sub.none _,congrArg (Value.int .i64) ((DqE_frm lim rng fun k=>by obtain ⟨x,hx,hx2⟩:=hr.1 hc;exact hx2 (k x hx)).symm),rfl⟩
 have frm:d.Frm:=fun x hx=>Classical.byContradiction fun q=>by rw [hr.2 ⟨x,hx,q⟩] at hc;cases hc
 clear hc hr
 repeat first|refine go ?_|with_reducible intro _
 refine Wk.call rfl rfl (.l .nil) (compactOl (l:=e) hel Ev.wM) rfl rfl rfl ?_
 rintro v67 Z' A' hz ⟨rfl,w,rfl⟩
 first|refine Wk.knowr Ev.rM (fun s h=>ol.form (v:=v67) h) ?_|refine Wk.know Ev.rM (fun s h=>ol.form (v:=v67) h) ?_
 rintro ⟨a67,c67,rfl⟩
 have hcl:=cpt_lt hse
 rw [hpe.nodup_iff,hel] at hcl
 repeat first|refine go ?_|with_reducible intro _
 refine Wk.cond rfl (fun hc=>?_) (fun hc=>?_)
 ·repeat first|refine go ?_|with_reducible intro _
  refine Wk.ret ⟨_,Rs.tmp rfl Rs.nil,_,Sub.none _,congrArg (Value.int .i64) ((DqE_onc lim rng frm (hcl.1 (by simp at hc;omega))).symm),rfl⟩
 ·have onc:d.Onc:=Classical.byContradiction fun q=>by have:=hcl.2 q;simp at hc;omega
  repeat first|refine go ?_|with_reducible intro _
  refine Wk.ret ⟨_,Rs.tmp rfl Rs.nil,_,Sub.none _,congrArg (Value.int .i64) ((DqE_ok ⟨lim,rng,frm,onc⟩).symm),rfl⟩
end Go.Proofs.J
namespace Go.Proofs.J
open Go.Ev Go
end Go.Proofs.J
namespace Go.Proofs.J
open Go.Ev Go
end Go.Proofs.J
namespace Go.Proofs.J
open Go.Ev Go
end Go.Proofs.J
namespace Go.Proofs.J
open Go.Ev Go
end Go.Proofs.J
namespace Go.Proofs.J
open Go.Ev Go
open Classical in
noncomputable def prW (d:Dq):List Int:=if DqE d=0 then List.replicate (2+d.size.toNat) 0 else []
open Classical in
noncomputable def prT (d:Dq):List (List Ins):=if DqE d=0 then progI d else []
open Classical in
noncomputable def prR (d:Dq):Int:=if DqE d=0 then d.room else 0
theorem WkR.ok {Z:Zone} {cs:List Value} {d:Dq} (h:DqE d=0) (k:WkR Z cs (List.replicate (2+d.size.toNat) 0) (progI d) d.room):WkR Z cs (prW d) (prT d) (prR d):=by
 unfold prW prT prR
 rw [if_pos h,if_pos h,if_pos h]
 exact k
end Go.Proofs.J
namespace Go.Proofs.J
open Go Go.Ev
end Go.Proofs.J
namespace Go.Proofs.J
open Go.Ev Go
abbrev lnB (d:Dq) (p1:Option Addr) (p2:Nat) (p3:Option Addr) (p4:Nat) (vi vd vo vt:Value):AObj:=.cells [.int .i64 d.size,.int .i64 d.room,.bool d.fence,.slice p1 d.owner.length p2,.slice p3 d.thieves.length p4,vi,vd,vo,vt,.slice none 0 0] true 0
abbrev LnA (d : Dq) (p1 : Option Addr) (p2 : Nat) (p3 : Option Addr) (p4 : Nat) (b bd cd : Nat) (vt : Value) (x : Ln) (vi vo : Value) (us : List Value) : List SA :=
  [oq 1 vi x.inn.length (nums x.inn), olp bd 1 (.slice (some ⟨bd, 0, none⟩) x.done.length cd) x.done.length (nums x.done), ol 1 vo x.own.length (nums x.own), inn us (x.th.map nums), ol 1 vt d.thieves.length us,
   pt b (lnB d p1 p2 p3 p4 vi (.slice (some ⟨bd, 0, none⟩) x.done.length cd) vo vt)]
theorem many_succ {d:Dq} {t:Nat} (h0:t≠0) (h:t - 1 < d.thieves.length):d.many t=d.thieves[t - 1]:=by
 unfold Dq.many
 rw [if_neg h0]
 simp [h]
theorem has_ {Z:Zone} {d:Dq} {p1:Option Addr} {p2:Nat} {p3:Option Addr} {p4:Nat} {b bd cd:Nat} {vt:Value} {x:Ln} {vi vo:Value} {us:List Value} {t:Nat} (so:Sl Z 2 (.slice p1 d.owner.length p2) d.owner.length (d.owner.flatMap actC)) (st:Sl Z 1 (.slice p3 d.thieves.length p4) d.thieves.length (nums d.thieves))
  (hd:x.done.length=d.thieves.length+1) (ht:t < x.done.length) (hs:d.thieves.length≤1000∧d.owner.length≤1000) :
  Cz M (.func (.func 49) #[] #[]) [.pointer (some ⟨b,0,none⟩),.int .i64 t] Z (LnA d p1 p2 p3 p4 b bd cd vt x vi vo us) (fun v' Z' A'=>Bis v' (x.done[t] < d.many t)∧Z=Z'∧A'=LnA d p1 p2 p3 p4 b bd cd vt x vi vo us):=by
 refine Cz.fn (f:=Tryz.f49) Ev.cM rfl rfl rfl _ rfl ?_
 repeat first|refine go ?_|with_reducible intro _
 refine Wk.cond rfl (fun hc=>?_) (fun hc=>?_)
 ·have h0:t=0:=by simp at hc;omega
  subst h0
  clear hc
  repeat first|refine go ?_|with_reducible intro _
  refine Wk.drawr (ms:=[0,1,3,7,15,31,0,64,192,448,960,1984,4095,8191]) (l:=[0,1,2,3,4,5,6,7,8,9,10,11,12,13]) Ev.cM Ev.cM Ev.cM rfl ?_
  repeat first|refine go ?_|with_reducible intro _
  refine Wk.iaV 0 rfl rfl rfl rfl rfl rfl rfl ht ?_
  refine Wk.loadOlp (cs:=[_]) rfl rfl Ev.rM (nums_get (i:=0) Ev.wM ht) rfl rfl rfl ?_
  repeat first|refine go ?_|with_reducible intro _
  refine Wk.ret ⟨_,Rs.tmp rfl Rs.nil,_,Sub.refl _,Bis.of (by simp [Dq.many]),rfl,rfl⟩
 ·have h0:t≠0:=fun k=>by subst k;simp at hc
  have h1:t - 1 < d.thieves.length:=by omega
  clear hc
  repeat first|refine go ?_|with_reducible intro _
  refine Wk.drawr (ms:=[0,1,3,7,0,31,63,0,128,384,896,1920,0,4096,16256,32640,65535,131071]) (l:=[0,1,2,3,4,5,6,7,8,9,10,11,12,13,14,15,16,17]) Ev.cM Ev.cM Ev.cM rfl ?_
  repeat first|refine go ?_|with_reducible intro _
  refine Wk.iaV t rfl rfl rfl rfl rfl rfl rfl ht ?_
  refine Wk.loadOlp (cs:=[_]) rfl rfl Ev.rM (nums_get (i:=t) Ev.wM ht) rfl rfl rfl ?_
  repeat first|refine go ?_|with_reducible intro _
  refine Wk.iaSl (t - 1) st rfl rfl rfl rfl rfl rfl Ev.wM h1 (getCells_map h1) fun b off hp=>?_
  repeat first|refine go ?_|with_reducible intro _
  refine Wk.ret ⟨_,Rs.tmp rfl Rs.nil,_,Sub.refl _,Bis.of (by rw [many_succ h0 h1];simp),rfl,rfl⟩
theorem stolen_ {Z:Zone} {d:Dq} {p1:Option Addr} {p2:Nat} {p3:Option Addr} {p4:Nat} {b:Nat} {x:Ln} {vi vd vo vt:Value} (hs:x.inn.length≤1000) :
  Cz M (.func (.func 97) #[] #[]) [.pointer (some ⟨b,0,none⟩)] Z [oq 1 vi x.inn.length (nums x.inn),pt b (lnB d p1 p2 p3 p4 vi vd vo vt)] (fun v' Z' A'=>v'=.int .i64 x.st.1∧Z=Z'∧∃ vi',A'=[oq 1 vi' x.st.2.length (nums x.st.2),pt b (lnB d p1 p2 p3 p4 vi' vd vo vt)]):=by
 refine Cz.fn (f:=Tryz.f97) Ev.cM rfl rfl rfl _ rfl ?_
 refine Wk.know Rem.head (fun s h=>oq.form (v:=vi) h) ?_
 rintro ⟨ai,ci,rfl⟩
 repeat first|refine go ?_|with_reducible intro _
 refine Wk.cond rfl (fun hc=>?_) (fun hc=>?_)
 ·have h0:x.inn=[]:=by simpa using hc
  have e1:x.st=(0,[]):=by unfold Ln.st;rw [h0]
  repeat first|refine go ?_|with_reducible intro _
  refine Wk.ret ⟨_,Rs.tmp rfl Rs.nil,_,Sub.refl _,by rw [e1];rfl,rfl,.slice ai x.inn.length ci,by rw [show x.st.2=x.inn by rw [e1,h0]]⟩
 ·have hpos:0 < x.inn.length:=List.length_pos_iff.2 (by simpa using hc)
  clear hc
  obtain ⟨n,r,hnr⟩:∃ n r,x.inn=n::r:=by
   match h:x.inn with
   | []=>rw [h] at hpos;exact absurd hpos (by decide)
   | n::r=>exact ⟨n,r,rfl⟩
  have e1:x.st=(n,r):=by unfold Ln.st;rw [hnr]
  repeat first|refine go ?_|with_reducible intro _
  refine Wk.oqOpenr Rem.head hpos fun bq off=>?_
  refine Wk.iaOqp 0 Rem.head rfl rfl rfl rfl rfl rfl rfl hpos ?_
  refine Wk.loadOqp1 (o:=0) (v:=.int .i64 n) rfl rfl Rem.head rfl (by rw [hnr];rfl) rfl rfl ?_
  refine Wk.oqShutr Rem.head ?_
  repeat first|refine go ?_|with_reducible intro _
  refine Wk.sliceOq (l:=1) Rem.head rfl rfl rfl rfl rfl hpos rfl rfl rfl fun v'=>?_
  refine Wk.knowr Rem.head (fun s h=>oq.form (v:=v') h) ?_
  rintro ⟨a2,c2,rfl⟩
  repeat first|refine go ?_|with_reducible intro _
  refine Wk.ret ⟨_,Rs.tmp rfl Rs.nil,_,Sub.refl _,by rw [e1];rfl,rfl,.slice a2 (x.inn.length - 1) c2,?_⟩
  have e3:(nums x.inn).drop (1*1)=nums r:=by rw [hnr];rfl
  have e4:x.inn.length - 1=r.length:=by rw [hnr];rfl
  rw [e1,e3,e4]
end Go.Proofs.J
namespace Go.Proofs.J
open Go.Ev Go
theorem act_get {d:Dq} {x:Ln} (h1:0 < x.done.length) (hk:x.done[0].toNat < d.owner.length):d.act x=d.owner[x.done[0].toNat]:=by
 unfold Dq.act
 simp [h1,hk]
theorem own_ {Z:Zone} {d:Dq} {p1:Option Addr} {p2:Nat} {p3:Option Addr} {p4:Nat} {b bd cd:Nat} {vt:Value} {x:Ln} {vi vo:Value} {us:List Value} (so:Sl Z 2 (.slice p1 d.owner.length p2) d.owner.length (d.owner.flatMap actC))
  (hd:0 < x.done.length) (h0:0≤x.done[0]) (hk:x.done[0].toNat < d.owner.length) (ho:d.owner.length≤1000) (hs:x.inn.length≤1000) :
  Cz M (.func (.func 96) #[] #[]) [.pointer (some ⟨b,0,none⟩)] Z (LnA d p1 p2 p3 p4 b bd cd vt x vi vo us) (fun v' Z' A'=>v'=.int .i64 (x.tk d (d.act x)).1∧Z=Z'∧∃ vi',A'=LnA d p1 p2 p3 p4 b bd cd vt { x with inn:=(x.tk d (d.act x)).2 } vi' vo us):=by
 rw [act_get hd hk]
 refine Cz.fn (f:=Tryz.f96) Ev.cM rfl rfl rfl _ rfl ?_
 refine Wk.know Rem.head (fun s h=>oq.form (v:=vi) h) ?_
 rintro ⟨ai,ci,rfl⟩
 have e2:=actL_get hk
 repeat first|refine go ?_|with_reducible intro _
 refine Wk.drawr (ms:=[0,1,3,7,15,0,32,96,224,480,992,2047,4095,0,8192,24576,57344,122880,253952,0,532479,2097151]) (l:=[0,1,2,3,4,5,6,7,8,9,10,11,12,13,14,15,16,17,18,19,20,21]) Ev.cM Ev.cM Ev.cM rfl ?_
 repeat first|refine go ?_|with_reducible intro _
 refine Wk.iaV 0 rfl rfl rfl rfl rfl rfl rfl hd ?_
 refine Wk.loadOlp (cs:=[_]) rfl rfl Ev.rM (nums_get (i:=0) Ev.wM hd) rfl rfl rfl ?_
 repeat first|refine go ?_|with_reducible intro _
 refine Wk.iaSl x.done[0].toNat so rfl rfl rfl rfl rfl rfl Ev.wM hk (actL_get hk) fun b1 off hp=>?_
 repeat first|refine go ?_|with_reducible intro _
 refine Wk.storeD rfl rfl rfl rfl rfl .head rfl rfl ⟨?_,?_⟩
 ·exact Ev.pM0
 repeat first|refine go ?_|with_reducible intro _
 refine Wk.drawr (ms:=[0,1,3,7,15,31,63,127,7,263,775,1799,3847,8191,16383,32767]) (l:=[0,1,2,3,4,5,6,7,8,9,10,11,12,13,14,15]) Ev.cM Ev.cM Ev.cM rfl ?_
 repeat first|refine go ?_|with_reducible intro _
 refine Wk.caser 28 rfl (fun hp=>?_) (fun hp=>?_)
 ·repeat first|refine go ?_|with_reducible intro _
  refine Wk.cond rfl (fun hc=>?_) (fun hc=>?_)
  ·have hz:(x.inn.length:Int)=d.size:=by simpa using hc
   have e1:x.tk d d.owner[x.done[0].toNat]=(-2,x.inn):=by unfold Ln.tk;rw [if_pos hp,if_pos hz]
   repeat first|refine go ?_|with_reducible intro _
   refine Wk.ret ⟨_,Rs.tmp rfl Rs.nil,_,.drop (Sub.refl _),by rw [e1];rfl,rfl,.slice ai x.inn.length ci,by rw [e1]⟩
  ·have hz:¬ (x.inn.length:Int)=d.size:=by simpa using hc
   have e1:x.tk d d.owner[x.done[0].toNat]=(d.owner[x.done[0].toNat].n,x.inn++[d.owner[x.done[0].toNat].n]):=by unfold Ln.tk;rw [if_pos hp,if_neg hz]
   clear hc
   repeat first|refine go ?_|with_reducible intro _
   refine Wk.cond rfl (fun hc=>?_) (fun hc=>by rw [hp] at hc;cases hc)
   clear hc
   repeat first|refine go ?_|with_reducible intro _
   refine Wk.drawr (ms:=[0,0,2,6,14,0,32,96,254,511,1023,2047]) (l:=[0,1,2,3,4,5,6,7,8,9,10,11]) Ev.cM Ev.cM Ev.cM rfl ?_
   repeat first|refine go ?_|with_reducible intro _
   refine Wk.bs (cs:=[.int .i64 d.owner[x.done[0].toNat].n]) rfl rfl rfl rfl rfl rfl rfl fun b51=>?_
   refine Wk.appendQ (kk:=1) (new:=[.int .i64 d.owner[x.done[0].toNat].n]) rfl rfl rfl rfl rfl rfl rfl rfl (.tail (.tail .head)) (Src.lit Ev.hM rfl) rfl rfl rfl Ev.wM Ev.wM Ev.cM rfl rfl fun v52=>?_
   refine Wk.knowr Rem.head (fun s h=>oq.form (v:=v52) h) ?_
   rintro ⟨a52,c52,rfl⟩
   repeat first|refine go ?_|with_reducible intro _
   refine Wk.ret ⟨_,Rs.tmp rfl Rs.nil,_,.keep (.drop (.drop (Sub.refl _))),by rw [e1];rfl,rfl,.slice a52 (x.inn.length+1) c52,?_⟩
   rw [e1]
   show _=[oq 1 _ (x.inn++[d.owner[x.done[0].toNat].n]).length (nums (x.inn++[d.owner[x.done[0].toNat].n])),_,_,_,_,_]
   rw [List.length_append,nums_append]
   rfl
 ·repeat first|refine go ?_|with_reducible intro _
  refine Wk.cond rfl (fun hc=>by rw [hp] at hc;cases hc) (fun hc=>?_)
  clear hc
  repeat first|refine go ?_|with_reducible intro _
  refine Wk.cond rfl (fun hc=>?_) (fun hc=>?_)
  ·have h00:x.inn=[]:=List.length_eq_zero_iff.1 (by simp at hc;omega)
   have e1:x.tk d d.owner[x.done[0].toNat]=(0,[]):=by unfold Ln.tk;rw [if_neg (by simp [hp]),dif_pos h00]
   repeat first|refine go ?_|with_reducible intro _
   refine Wk.ret ⟨_,Rs.tmp rfl Rs.nil,_,.drop (Sub.refl _),by rw [e1];rfl,rfl,.slice ai x.inn.length ci,by rw [show (x.tk d d.owner[x.done[0].toNat]).2=x.inn by rw [e1,h00]]⟩
  ·have hne:x.inn≠[]:=fun k=>by rw [k] at hc;simp at hc
   have hpos:0 < x.inn.length:=List.length_pos_iff.2 hne
   have e1:x.tk d d.owner[x.done[0].toNat]=(x.inn.getLast hne,x.inn.dropLast):=by unfold Ln.tk;rw [if_neg (by simp [hp]),dif_neg hne]
   clear hc
   repeat first|refine go ?_|with_reducible intro _
   refine Wk.oqOpenr (.tail .head) hpos fun bq off=>?_
   refine Wk.iaOqp (x.inn.length - 1) Rem.head rfl rfl rfl rfl rfl rfl Ev.wM Ev.wM ?_
   refine Wk.loadOqp1 (o:=(x.inn.length - 1)*1) (v:=.int .i64 (x.inn.getLast hne)) rfl rfl Rem.head rfl (by rw [Nat.mul_one,List.getElem?_map,List.getLast_eq_getElem,List.getElem?_eq_getElem Ev.wM];rfl) rfl rfl ?_
   refine Wk.knowr Rem.head (fun s h=>oqp.form h) ?_
   rintro ⟨cp,hv,hcp⟩
   cases hv
   repeat first|refine go ?_|with_reducible intro _
   refine Wk.tellr 72 (.int .i64 ((x.inn.length - 1:Nat):Int)) rfl (congrArg (Value.int .i64) Ev.wM) ?_
   refine Wk.v (v:=.slice (some ⟨bq,off+0*1,none⟩) (x.inn.length - 1 - 0) (ci - 0)) rfl rfl rfl (Rd.sliceOqp (l:=0) (h:=x.inn.length - 1) (m:=ci) Rem.head rfl rfl rfl rfl rfl rfl rfl rfl rfl (abounds_hi Ev.wM hcp)) ?_
   repeat first|refine go ?_|with_reducible intro _
   refine Wk.alter (C:=[oq 1 (.slice (some ⟨bq,off,none⟩) (x.inn.length - 1) ci) (x.inn.length - 1) ((nums x.inn).take ((x.inn.length - 1)*1))]) Rem.head (fun s h=>Sat.one (oqp.short Ev.wM h)) ?_
   refine Wk.ret ⟨_,Rs.tmp rfl Rs.nil,_,.keep (.drop (Sub.refl _)),by rw [e1];rfl,rfl,.slice (some ⟨bq,off,none⟩) (x.inn.length - 1) ci,?_⟩
   rw [e1]
   show _=[oq 1 _ x.inn.dropLast.length (nums x.inn.dropLast),_,_,_,_,_]
   rw [List.length_dropLast,List.dropLast_eq_take,show nums (x.inn.take (x.inn.length - 1))=(nums x.inn).take ((x.inn.length - 1)*1) by rw [Nat.mul_one];simp only [nums,List.map_take]]
   rfl
end Go.Proofs.J
namespace Go.Proofs.J
open Go.Ev Go
theorem Cz.pull {fv:Value} {args:List Value} {Z:Zone} {A:List SA} {R:Value→Zone→List SA→Prop} (h:Cz M fv args Z A (fun v' Z' A'=>∃ x B,Rem A' x B∧R v' Z' (x::B))):Cz M fv args Z A R:=by
 intro H φ h3
 obtain ⟨n,v,H',Z',A',h1,h2,h3,x,B,p,hr⟩:=h H φ h3
 exact ⟨n,v,H',Z',_,h1,h2,h3.alterP (C:=[x]) p fun s hs=>⟨s,List.Perm.refl _,Sat.one hs⟩,hr⟩
theorem cells_set {l:List Value} {i off:Nat} {v:Value} (e:off=i) (h:i < l.length):setCells l off [v]=some (l.set i v):=by
 subst e
 unfold setCells
 rw [if_pos (by simp;omega)]
 congr 1
 rw [List.set_eq_take_append_cons_drop,if_pos h]
 rfl
theorem getD_at {l:List Int} {t:Nat} (h:t < l.length):l.getD t 0=l[t]:=by simp [h]
theorem do_ {Z:Zone} {d:Dq} {p1:Option Addr} {p2:Nat} {p3:Option Addr} {p4:Nat} {b bd cd:Nat} {vt:Value} {x:Ln} {vi vo:Value} {us:List Value} {t:Nat} (so:Sl Z 2 (.slice p1 d.owner.length p2) d.owner.length (d.owner.flatMap actC))
  (ok:x.Ok d) (htd:t < x.done.length) (hlt:x.done[t] < d.many t) (hu:us.length=d.thieves.length) (ho:d.owner.length≤8) (ht:d.thieves.length≤3) (h4:∀ n∈d.thieves,n≤4) (hz4:d.size≤4) :
  Cz M (.func (.func 50) #[] #[]) [.pointer (some ⟨b,0,none⟩),.int .i64 t] Z (LnA d p1 p2 p3 p4 b bd cd vt x vi vo us) (fun v' Z' A'=>Z=Z'∧∃ vi' vo' us',us'.length=d.thieves.length∧A'=LnA d p1 p2 p3 p4 b bd cd vt (x.step d t) vi' vo' us'):=by
 have hdl:=ok.dn
 have hth:=ok.tl
 have hin:x.inn.length≤8:=by have:=ok.sz;omega
 have hle:=ok.le t htd
 have hon:x.own.length≤8:=by
  have h1:=ok.ow
  have h2:=ok.le 0 Ev.wM
  rw [getD_at Ev.wM] at h1
  have:d.many 0=d.owner.length:=by simp [Dq.many]
  omega
 by_cases h0:t=0
 ·subst h0
  have hk:x.done[0].toNat < d.owner.length:=by
   have:d.many 0=d.owner.length:=by simp [Dq.many]
   omega
  have hmx:x.done[0]≤8:=by
   have:d.many 0=d.owner.length:=by simp [Dq.many]
   omega
  refine Cz.pull ?_
  refine Cz.fn (f:=Tryz.f50) Ev.cM rfl rfl rfl _ rfl ?_
  refine Wk.know (.tail (.tail .head)) (fun s h=>ol.form (v:=vo) h) ?_
  rintro ⟨ao,co,rfl⟩
  repeat first|refine go ?_|with_reducible intro _
  refine Wk.drawr (ms:=[0,0,2,6,14,30,0,64,192,510,1023,2047,4095,8191]) (l:=[0,1,2,3,4,5,6,7,8,9,10,11,12,13]) Ev.cM Ev.cM Ev.cM rfl ?_
  repeat first|refine go ?_|with_reducible intro _
  refine Wk.callD rfl rfl (.l (.l (.l (.l (.l (.l .nil)))))) (own_ so htd hle.1 hk Ev.wM Ev.wM) rfl rfl fun v13 Z2 A' hz2 hq=>?_
  obtain ⟨rfl,rfl,vi',rfl⟩:=hq
  refine ⟨?_,?_⟩
  ·exact Ev.pM0
  refine Wk.bs (cs:=[.int .i64 (x.tk d (d.act x)).1]) rfl rfl rfl rfl rfl rfl rfl fun b14=>?_
  refine Wk.append (kk:=1) (new:=[.int .i64 (x.tk d (d.act x)).1]) rfl rfl rfl rfl rfl rfl rfl rfl (.tail (.tail (.tail .head))) (Src.lit Ev.hM rfl) rfl rfl rfl (by dsimp only;omega) (by dsimp only;omega) Ev.cM rfl rfl fun v15=>?_
  refine Wk.dropr (.keep (.drop (Sub.refl _))) ?_
  first|refine Wk.knowr Ev.rM (fun s h=>ol.form (v:=v15) h) ?_|refine Wk.know Ev.rM (fun s h=>ol.form (v:=v15) h) ?_
  rintro ⟨a15,c15,rfl⟩
  repeat first|refine go ?_|with_reducible intro _
  have t0:x.done[0]'htd=x.done[0]:=rfl
  refine Wk.iaV 0 rfl rfl rfl rfl rfl rfl rfl htd ?_
  refine Wk.loadOlp (cs:=[_]) rfl rfl Ev.rM (nums_get (i:=0) Ev.wM htd) rfl rfl rfl ?_
  refine Wk.add rfl rfl Ev.wM rfl rfl ?_
  refine Wk.iaV 0 rfl rfl rfl rfl rfl rfl rfl htd ?_
  refine Wk.storeOlp rfl rfl rfl rfl rfl Ev.rM (nums_set (i:=0) Ev.wM htd) Ev.cM rfl ?_
  repeat first|refine go ?_|with_reducible intro _
  refine Wk.done ⟨_,Rs.nil,_,Sub.refl _,oq 1 vi' (x.tk d (d.act x)).2.length (nums (x.tk d (d.act x)).2),_,.tail (.tail .head),rfl,vi',.slice a15 (x.own.length+1) c15,us,hu,?_⟩
  have e1:x.step d 0=⟨(x.tk d (d.act x)).2,x.done.set 0 (x.done[0]+1),x.own++[(x.tk d (d.act x)).1],x.th⟩:=by unfold Ln.step;rw [if_pos rfl,getD_at htd]
  rw [e1]
  show _=[oq 1 _ _ _,olp bd 1 _ (x.done.set 0 (x.done[0]+1)).length _,ol 1 _ (x.own++[(x.tk d (d.act x)).1]).length (nums (x.own++[(x.tk d (d.act x)).1])),_,_,_]
  rw [List.length_append,nums_append]
  simp
 ·have hi:t - 1 < d.thieves.length:=by omega
  have hiu:t - 1 < us.length:=by omega
  have hix:t - 1 < x.th.length:=by omega
  have hui:us[t - 1]?=some us[t - 1]:=List.getElem?_eq_getElem hiu
  have hvi:(x.th.map nums)[t - 1]?=some (nums x.th[t - 1]):=by rw [List.getElem?_map,List.getElem?_eq_getElem hix];rfl
  have hmt:x.done[t]≤4:=by have h1:=many_succ h0 hi;have h2:=h4 _ (List.getElem_mem hi);omega
  have hrow:x.th[t - 1].length≤8:=by have h1:=ok.rw _ hix;rw [show t - 1+1=t by omega,getD_at htd] at h1;omega
  refine Cz.pull ?_
  refine Cz.pull ?_
  refine Cz.pull ?_
  refine Cz.pull ?_
  refine Cz.pull ?_
  refine Cz.pull ?_
  refine Cz.fn (f:=Tryz.f50) Ev.cM rfl rfl rfl _ rfl ?_
  refine Wk.olOpen (sz:=1) (v:=vt) (.tail (.tail (.tail (.tail .head)))) Ev.wM fun bt=>?_
  refine Wk.know Rem.head (fun s h=>olp.form (v:=vt) h) ?_
  rintro ⟨ct,rfl,-⟩
  refine Wk.know (.tail (.tail (.tail (.tail .head)))) (fun s h=>let ⟨s0,r,_,h1,_⟩:=innP.openU h hui _ hvi;ol.form h1) ?_
  rintro ⟨au,cu,hus⟩
  have hve:veq us[t - 1] us[t - 1]=true:=by rw [hus];exact veq_slice _ _ _
  repeat first|refine go ?_|with_reducible intro _
  refine Wk.cond rfl (fun hc=>absurd hc (by simp;omega)) (fun hc=>?_)
  clear hc
  repeat first|refine go ?_|with_reducible intro _
  refine Wk.drawr (ms:=[0,1,3,7,15,0,32,0,128,384,896,1920,0,4096,16256,32640,0,65536,196608,524160,1048575,2097151]) (l:=[0,1,2,3,4,5,6,7,8,9,10,11,12,13,14,15,16,17,18,19,20,21]) Ev.cM Ev.cM Ev.cM rfl ?_
  repeat first|refine go ?_|with_reducible intro _
  refine Wk.iaV (t - 1) rfl rfl rfl rfl rfl rfl Ev.wM hi ?_
  refine Wk.loadOlp (cs:=[us[t - 1]]) rfl rfl Ev.rM (getCells_one (by rw [Nat.zero_add,Nat.mul_one];exact hui)) rfl rfl rfl ?_
  repeat first|refine go ?_|with_reducible intro _
  refine Wk.callD rfl rfl (.r (.l (.r (.r (.r (.l .nil)))))) (stolen_ Ev.wM) rfl rfl fun v36 Z2 A' hz2 hq=>?_
  obtain ⟨rfl,rfl,vi',rfl⟩:=hq
  refine ⟨?_,?_⟩
  ·repeat (first|exact PnAll.done|refine PnAll.two ?_|refine PnAll.skip rfl ?_|refine PnAll.keep (Rd.loadL rfl rfl Ev.hM rfl rfl) (veq_slice _ _ _) ?_|refine PnAll.keep (Rd.loadOlp (cs:=[us[t - 1]]) rfl rfl Ev.rM (getCells_one (by rw [Nat.zero_add,Nat.mul_one];exact hui)) rfl) hve ?_)
  refine Wk.bs (cs:=[.int .i64 x.st.1]) rfl rfl rfl rfl rfl rfl rfl fun b37=>?_
  refine Wk.innOpenUr (t - 1) (.tail (.tail (.tail (.tail (.tail (.tail .head)))))) hui hvi ?_
  refine Wk.appendD (kk:=1) (new:=[.int .i64 x.st.1]) rfl rfl rfl rfl rfl rfl rfl rfl .head (Src.lit Ev.hM rfl) rfl rfl rfl (by simp;omega) (by simp;omega) rfl rfl fun v38=>⟨?_,?_⟩
  ·exact Ev.pM0
  refine Wk.knowr Rem.head (fun s h=>ol.form (v:=v38) h) ?_
  rintro ⟨a38,c38,rfl⟩
  have e:(nums x.th[t - 1]).length+1=(nums x.th[t - 1]++[Value.int .i64 x.st.1]).length:=by simp
  rw [e]
  refine Wk.innCloseUr (t - 1) (.l (.l (Spl.none _))) ?_
  repeat first|refine go ?_|with_reducible intro _
  refine Wk.iaV (t - 1) rfl rfl rfl rfl rfl rfl Ev.wM hi ?_
  refine Wk.storeOlp rfl rfl rfl rfl rfl Ev.rM (cells_set (i:=t - 1) Ev.wM hiu) Ev.cM rfl ?_
  repeat first|refine go ?_|with_reducible intro _
  refine Wk.iaV t rfl rfl rfl rfl rfl rfl rfl htd ?_
  refine Wk.loadOlp (cs:=[_]) rfl rfl Ev.rM (nums_get (i:=t) Ev.wM htd) rfl rfl rfl ?_
  refine Wk.add rfl rfl Ev.wM rfl rfl ?_
  refine Wk.iaV t rfl rfl rfl rfl rfl rfl rfl htd ?_
  refine Wk.storeOlp rfl rfl rfl rfl rfl Ev.rM (nums_set (i:=t) Ev.wM htd) Ev.cM rfl ?_
  refine Wk.alterr (C:=[ol 1 (.slice (some ⟨bt,0,none⟩) d.thieves.length ct) d.thieves.length (us.set (t - 1) (.slice a38 (nums x.th[t - 1]++[Value.int .i64 x.st.1]).length c38))]) (.tail .head) (fun s h=>Sat.one (olp.ol h)) ?_
  repeat first|refine go ?_|with_reducible intro _
  refine Wk.done ⟨_,Rs.nil,_,.keep (.keep (.keep (.drop (Sub.refl _)))),_,_,.tail (.tail (.tail (.tail .head))),_,_,.tail .head,_,_,.tail (.tail (.tail .head)),_,_,.tail (.tail (.tail (.tail (.tail .head)))),_,_,.tail (.tail (.tail (.tail .head))),_,_,.tail (.tail (.tail (.tail (.tail .head)))),rfl,vi',vo,us.set (t - 1) (.slice a38 (nums x.th[t - 1]++[Value.int .i64 x.st.1]).length c38),by simpa using hu,?_⟩
  have e1:x.step d t=⟨x.st.2,x.done.set t (x.done[t]+1),x.own,x.th.set (t - 1) (x.th[t - 1]++[x.st.1])⟩:=by unfold Ln.step;rw [if_neg h0,getD_at htd,show x.th.getD (t - 1) []=x.th[t - 1] by simp [hix]]
  rw [e1]
  simp [List.map_set]
end Go.Proofs.J
namespace Go.Proofs.J
open Go.Ev Go
theorem olp_pt {Z:Zone} {b sz m:Nat} {vs:List Value} {s:List Cel} (hl:vs.length=m*sz) (hok:okCells vs=true) (h:(pt b (.cells vs true 0)).p Z s):Sat Z [olp b sz (.slice (some ⟨b,0,none⟩) m m) m vs] s :=
 Sat.one ⟨0,m,vs,rfl,Nat.le_refl _,hl,by rw [←hl,List.take_length],.inl rfl,hok,h⟩
theorem rep_nil (m:Nat):repCells [.slice none 0 0] m=List.replicate m (.slice none 0 0):=by
 induction m with
 | zero=>rfl
 | succ m ih=>rw [repCells,ih,List.replicate_succ];rfl
theorem newLine_ {Z:Zone} {d:Dq} {p1:Option Addr} {p2:Nat} {p3:Option Addr} {p4:Nat} (st:Sl Z 1 (.slice p3 d.thieves.length p4) d.thieves.length (nums d.thieves)) (ht:d.thieves.length≤1000) :
  Cz M (.func (.func 47) #[] #[]) [.agg ⟨[.int .i64 d.size,.int .i64 d.room,.bool d.fence,.slice p1 d.owner.length p2,.slice p3 d.thieves.length p4]⟩] Z [] (fun v' Z' A'=>Z=Z'∧∃ b bd vt,v'=.pointer (some ⟨b,0,none⟩)∧A'=LnA d p1 p2 p3 p4 b bd (d.thieves.length+1) vt (Ln.z d) (.slice none 0 0) (.slice none 0 0) (List.replicate d.thieves.length (.slice none 0 0))):=by
 refine Cz.fn (f:=Tryz.f47) Ev.cM rfl rfl rfl _ rfl ?_
 repeat first|refine go ?_|with_reducible intro _
 refine Wk.drawr (ms:=[0,0,2,6,14,30,0,64,192,448,960,2047,4095,8191]) (l:=[0,1,2,3,4,5,6,7,8,9,10,11,12,13]) Ev.cM Ev.cM Ev.cM rfl ?_
 repeat first|refine go ?_|with_reducible intro _
 refine Wk.mks (d.thieves.length+1) (d.thieves.length+1) rfl rfl rfl rfl rfl rfl Ev.wM Ev.wM (Nat.le_refl _) (by show 8*(d.thieves.length+1)≤_;omega) Ev.wM fun b8=>?_
 repeat first|refine go ?_|with_reducible intro _
 refine Wk.mks d.thieves.length d.thieves.length rfl rfl rfl rfl rfl rfl rfl rfl (Nat.le_refl _) (by show 24*d.thieves.length≤_;omega) Ev.wM fun b12=>?_
 repeat first|refine go ?_|with_reducible intro _
 refine Wk.drop (B:=[_,_,_]) (.keep (.keep (.keep (Sub.none _)))) ?_
 refine Wk.alter (x:=pt b12 (.cells (repCells [.slice none 0 0] d.thieves.length) true 0)) (C:=[olp b12 1 (.slice (some ⟨b12,0,none⟩) d.thieves.length d.thieves.length) d.thieves.length (List.replicate d.thieves.length (.slice none 0 0))]) (.tail .head) (fun s h=>by rw [←rep_nil];exact olp_pt (by rw [rep_nil];simp) (okCells_rep rfl _) h) ?_
 refine Wk.alter (C:=[ol 1 (.slice (some ⟨b12,0,none⟩) d.thieves.length d.thieves.length) d.thieves.length (List.replicate d.thieves.length (.slice none 0 0))]) Rem.head (fun s h=>Sat.one (olp.ol h)) ?_
 refine Wk.innNils d.thieves.length ?_
 refine Wk.olNil 1 ?_
 refine Wk.alter (x:=pt b8 (.cells (repCells [.int .i64 0] (d.thieves.length+1)) true 0)) (C:=[olp b8 1 (.slice (some ⟨b8,0,none⟩) (d.thieves.length+1) (d.thieves.length+1)) (d.thieves.length+1) (nums (List.replicate (d.thieves.length+1) 0))]) (.tail (.tail (.tail (.tail .head)))) (fun s h=>by rw [←rep_nums];exact olp_pt (by rw [rep_nums];simp) (okCells_rep rfl _) h) ?_
 refine Wk.olNil 1 ?_
 refine Wk.olq .head ?_
 refine Wk.ret ⟨_,Rs.tmp rfl Rs.nil,_,Sub.refl _,rfl,_,b8,.slice (some ⟨b12,0,none⟩) d.thieves.length d.thieves.length,rfl,?_⟩
 have e1:(Ln.z d).done.length=d.thieves.length+1:=by simp [Ln.z]
 have e2:(Ln.z d).th.map nums=List.replicate d.thieves.length []:=by simp [Ln.z,nums]
 show _=[oq 1 _ 0 [],olp b8 1 (.slice (some ⟨b8,0,none⟩) (Ln.z d).done.length (d.thieves.length+1)) (Ln.z d).done.length (nums (List.replicate (d.thieves.length+1) 0)),ol 1 _ 0 [],inn _ ((Ln.z d).th.map nums),ol 1 _ _ _,pt _ (lnB d p1 p2 p3 p4 _ (.slice (some ⟨b8,0,none⟩) (Ln.z d).done.length (d.thieves.length+1)) _ _)]
 rw [e1,e2]
 rfl
end Go.Proofs.J
namespace Go.Proofs.J
open Go.Ev Go
def DeR (Z:Zone) (cs:List Value) (e:De):Prop:=∃ v1 v2 v3 us,cs=[v1,v2,v3]∧Sl Z 1 v1 e.ow.length (nums e.ow)∧(Sl Z 1 v2 e.th.length us∧All2 (fun u l=>Sl Z 1 u l.length (nums l)) us e.th)∧Sl Z 1 v3 e.lf.length (nums e.lf)
theorem DeR.mono {Z Z':Zone} {cs:List Value} {e:De} (x:Ext Z Z') (h:DeR Z cs e):DeR Z' cs e:=let ⟨a,b,c,us,h1,h2,⟨h3,h4⟩,h5⟩:=h;⟨a,b,c,us,h1,h2.mono x,⟨h3.mono x,h4.mono fun _ _ q=>q.mono x⟩,h5.mono x⟩
theorem DeR.form {Z:Zone} {cs:List Value} {e:De} (h:DeR Z cs e):∃ a1 c1 a2 c2 a3 c3 us,cs=[.slice a1 e.ow.length c1,.slice a2 e.th.length c2,.slice a3 e.lf.length c3]∧Sl Z 1 (.slice a1 e.ow.length c1) e.ow.length (nums e.ow)∧Sl Z 1 (.slice a2 e.th.length c2) e.th.length us∧All2 (fun u l=>Sl Z 1 u l.length (nums l)) us e.th∧Sl Z 1 (.slice a3 e.lf.length c3) e.lf.length (nums e.lf):=by
 obtain ⟨v1,v2,v3,us,rfl,h1,⟨h2,h3⟩,h4⟩:=h
 obtain ⟨a1,c1,rfl⟩:=h1.form
 obtain ⟨a2,c2,rfl⟩:=h2.form
 obtain ⟨a3,c3,rfl⟩:=h4.form
 exact ⟨a1,c1,a2,c2,a3,c3,us,rfl,h1,h2,h3,h4⟩
theorem DeR.zero {Z:Zone}:DeR Z [.slice none 0 0,.slice none 0 0,.slice none 0 0] De.z:=⟨_,_,_,[],rfl,Sl.nil,⟨Sl.nil,.nil⟩,Sl.nil⟩
theorem cloneI {Z:Zone} {v:Value} {l:List Int} (s:Sl Z 1 v l.length (nums l)) (hl:l.length≤1000000) :
  Cz M (.func (.func 51) #[] #[]) [v] Z [] (fun v' Z' A'=>Sl Z' 1 v' l.length (nums l)∧A'=[]):=by
 have s0:=s
 rcases s with ⟨rfl,h0,_⟩|⟨b,off,c,xs,wr,g,rfl,_⟩
 ·have hn:l=[]:=List.length_eq_zero_iff.1 h0
  subst hn
  refine Cz.fn (f:=Tryz.f51) Ev.cM rfl rfl rfl _ rfl ?_
  repeat first|refine go ?_|with_reducible intro _
  refine Wk.ret ⟨_,Rs.tmp rfl Rs.nil,_,Sub.none _,Sl.nil,rfl⟩
 ·refine Cz.fn (f:=Tryz.f51) Ev.cM rfl rfl rfl _ rfl ?_
  repeat first|refine go ?_|with_reducible intro _
  refine Wk.bs rfl rfl rfl rfl rfl rfl rfl fun b9=>?_
  refine Wk.alterr (x:=pt b9 _) (C:=[ol 1 (.slice (some ⟨b9,0,none⟩) 0 0) 0 []]) Ev.rM (fun s h=>ol_of_pt (m:=0) (vs:=[]) (g:=0) rfl (.inl rfl) rfl h) ?_
  repeat first|refine go ?_|with_reducible intro _
  refine Wk.append rfl rfl rfl rfl rfl rfl rfl rfl Rem.head (Src.sl s0) rfl (ok_nums _) (by simp) Ev.wM Ev.wM rfl rfl rfl fun v12=>?_
  repeat first|refine go ?_|with_reducible intro _
  first|apply Wk.olFreezer (v:=v12)|apply Wk.olFreeze (v:=v12)
  case p=>repeat (first|exact Rem.head|apply Rem.tail)
  intro Z1 e1 h12
  refine Wk.ret ⟨_,Rs.tmp rfl Rs.nil,_,Sub.none _,(show Sl Z1 1 v12 l.length (nums l) by simpa using h12),rfl⟩
end Go.Proofs.J
namespace Go.Proofs.J
open Go.Ev Go
open Classical in
noncomputable def serE (d:Dq) (order:List Int):Int:=if ¬ DqE d=0 then DqE d else if serF d order (Ln.z d)=none then 7 else 0
open Classical in
noncomputable def serD (d:Dq) (order:List Int):De:=if ¬ DqE d=0 then De.z else match serF d order (Ln.z d) with
 | none=>De.z
 | some y=>⟨(Ln.finT d (d.thieves.length+1) y).own,(Ln.finT d (d.thieves.length+1) y).th,(Ln.finT d (d.thieves.length+1) y).inn⟩
abbrev zD:List Value:=[.slice none 0 0,.slice none 0 0,.slice none 0 0]
theorem all2_unmap {α β γ:Type} {R:α→γ→Prop} {f:β→γ}:∀ {x:List α} {y:List β},All2 R x (y.map f)→All2 (fun a b=>R a (f b)) x y
 | [],[],_=>.nil
 | a::x,b::y,.cons h k=>.cons h (all2_unmap k)
theorem serial_ {Z:Zone} {cs:List Value} {d:Dq} {vord:Value} {order:List Int} (h:DqR Z cs d) (s:Sl Z 1 vord order.length (nums order)) (ho:d.owner.length≤1000) (ht:d.thieves.length≤1000) (hn:order.length≤1000) :
  Cz M (.func (.func 15) #[] #[]) [.agg ⟨cs⟩,vord] Z [] (fun v' Z' A'=>(∃ cs',v'=.tuple ⟨[.agg ⟨cs'⟩,.int .i64 (serE d order)]⟩∧DeR Z' cs' (serD d order))∧A'=[]):=by
 have hD:=h
 obtain ⟨p1,p2,p3,p4,rfl,so,st⟩:=h.form
 obtain ⟨q,c,rfl⟩:=s.form
 refine Cz.fn (f:=Tryz.f15) Ev.cM rfl rfl rfl _ rfl ?_
 repeat first|refine go ?_|with_reducible intro _
 rename_i b2 b4
 refine Wk.call rfl rfl (Spl.none _) (check_ hD ho ht) rfl rfl rfl ?_
 rintro v' Z1 A' hz1 ⟨rfl,rfl⟩
 repeat first|refine go ?_|with_reducible intro _
 refine Wk.cond rfl (fun hc=>?_) (fun hc=>?_)
 ·have hne:¬ DqE d=0:=by simpa using hc
  have e1:serE d order=DqE d:=by unfold serE;rw [if_pos hne]
  have e2:serD d order=De.z:=by unfold serD;rw [if_pos hne]
  repeat first|refine go ?_|with_reducible intro _
  refine Wk.ret ⟨_,Rs.cell rfl rfl Ev.hM rfl rfl (Rs.tmp rfl Rs.nil),_,Sub.none _,⟨_,by rw [e1];rfl,by rw [e2];exact DeR.zero⟩,rfl⟩
 have he:DqE d=0:=by simpa using hc
 have ok:=DqE_zero he
 clear hc
 have l1:=ok.lim.1
 have l2:=ok.lim.2.1
 have l3:=ok.lim.2.2
 have g1:=ok.rng.1
 have g4:=ok.rng.2.2.2
 have st:=st.mono hz1
 have so:=so.mono hz1
 have s:=s.mono hz1
 repeat first|refine go ?_|with_reducible intro _
 refine Wk.call rfl rfl (Spl.none _) (newLine_ st ht) rfl rfl rfl ?_
 rintro v' Z' A' hz ⟨rfl,b,bd,vt,rfl,rfl⟩
 repeat first|refine go ?_|with_reducible intro _
 refine Wk.loop (fun mm L Z' A'=>∃ (j:Nat) (y:Ln) (vi vo:Value) (us:List Value),j≤order.length∧mm=order.length - j∧Z1=Z'∧us.length=d.thieves.length∧A'=LnA d p1 p2 p3 p4 b bd (d.thieves.length+1) vt y vi vo us++[pt b4 (.cells zD true 0),pt b2 (.cells [.int .i64 d.size,.int .i64 d.room,.bool d.fence,.slice p1 d.owner.length p2,.slice p3 d.thieves.length p4] true 0)]∧y.Ok d∧serF d order (Ln.z d)=serF d (order.drop j) y∧Kp L [(2,.pointer (some ⟨b2,0,none⟩)),(4,.pointer (some ⟨b4,0,none⟩)),(5,.int .i64 0),(7,.pointer (some ⟨b,0,none⟩)),(19,.slice q order.length c),(20,.int .i64 order.length),(21,.int .i64 j)]) order.length ⟨0,Ln.z d,.slice none 0 0,.slice none 0 0,List.replicate d.thieves.length (.slice none 0 0),Nat.zero_le _,rfl,rfl,by simp,rfl,Ln.Ok.z Ev.wM g4,rfl,Ev.kM⟩ ?_
 rintro mm L Z' A' - ⟨j,y,vi,vo,us,hj,rfl,rfl,hus,rfl,yok,hser,hk⟩
 refine Wk.kp hk ?_
 clear hk
 have hyd:=yok.dn
 repeat first|refine go ?_|with_reducible intro _
 refine Wk.cond rfl (fun hc=>?_) (fun hc=>?_)
 ·have hlt:j < order.length:=by simp at hc;omega
  clear hc
  have hdr:order.drop j=order[j]::order.drop (j+1):=List.drop_eq_getElem_cons hlt
  rw [hdr] at hser
  repeat first|refine go ?_|with_reducible intro _
  refine Wk.call rfl rfl (Spl.none _) (within_) rfl rfl rfl ?_
  rintro v' Z' A' hz ⟨⟨r,rfl,hr⟩,rfl,rfl⟩
  repeat first|refine go ?_|with_reducible intro _
  refine Wk.caser 31 rfl (fun hc=>?_) (fun hc=>?_)
  ·have hno:¬ (0≤order[j]∧order[j]≤d.thieves.length):=fun k=>by rw [hr.2 k] at hc;cases hc
   have q0:serF d order (Ln.z d)=none:=by rw [hser,serF,if_neg fun k=>hno ⟨k.1,k.2.1⟩]
   have e1:serE d order=7:=by unfold serE;rw [if_neg (fun k=>k he),if_pos q0]
   have e2:serD d order=De.z:=by unfold serD;rw [if_neg (fun k=>k he),q0]
   repeat first|refine go ?_|with_reducible intro _
   refine Wk.ret ⟨_,Rs.cell rfl rfl Ev.hM rfl rfl (Rs.tmp rfl Rs.nil),_,Sub.none _,⟨_,by rw [e1];rfl,by rw [e2];exact DeR.zero⟩,rfl⟩
  have hin:0≤order[j]∧order[j]≤d.thieves.length:=hr.1 (by simpa using hc)
  clear hc hr
  have htl:order[j].toNat < y.done.length:=by omega
  repeat first|refine go ?_|with_reducible intro _
  refine Wk.tellr 33 (.int .i64 (order[j].toNat:Nat)) rfl (congrArg (Value.int .i64) Ev.wM) ?_
  refine Wk.call rfl rfl (.l (.l (.l (.l (.l (.l (Spl.none _))))))) (has_ (x:=y) so st hyd htl ⟨ht,ho⟩) rfl rfl rfl ?_
  rintro v' Z' A' hz ⟨⟨r,rfl,hr⟩,rfl,rfl⟩
  repeat first|refine go ?_|with_reducible intro _
  refine Wk.cond rfl (fun hc=>?_) (fun hc=>?_)
  ·have hno:¬ y.done[order[j].toNat] < d.many order[j].toNat:=fun k=>by rw [hr.2 k] at hc;cases hc
   have q0:serF d order (Ln.z d)=none:=by rw [hser,serF,if_neg fun k=>hno (by rw [getD_at htl] at k;exact k.2.2)]
   have e1:serE d order=7:=by unfold serE;rw [if_neg (fun k=>k he),if_pos q0]
   have e2:serD d order=De.z:=by unfold serD;rw [if_neg (fun k=>k he),q0]
   repeat first|refine go ?_|with_reducible intro _
   refine Wk.ret ⟨_,Rs.cell rfl rfl Ev.hM rfl rfl (Rs.tmp rfl Rs.nil),_,Sub.none _,⟨_,by rw [e1];rfl,by rw [e2];exact DeR.zero⟩,rfl⟩
  ·have hyes:y.done[order[j].toNat] < d.many order[j].toNat:=hr.1 (by simpa using hc)
   clear hc hr
   repeat first|refine go ?_|with_reducible intro _
   refine Wk.tellr 39 (.int .i64 (order[j].toNat:Nat)) rfl (congrArg (Value.int .i64) Ev.wM) ?_
   refine Wk.call rfl rfl (.l (.l (.l (.l (.l (.l (Spl.none _))))))) (do_ so yok htl hyes hus l1 l2 l3 Ev.wM) rfl rfl rfl ?_
   rintro v' Z' A' hz ⟨rfl,vi',vo',us',hus',rfl⟩
   repeat first|refine go ?_|with_reducible intro _
   refine Wk.inv ⟨_,by omega,j+1,y.step d order[j].toNat,vi',vo',us',by omega,rfl,rfl,hus',rfl,yok.step htl hyes,?_,Ev.kM⟩
   rw [hser,serF,if_pos ⟨hin.1,hin.2,by rw [getD_at htl];exact hyes⟩]
 have hjn:j=order.length:=by simp at hc;omega
 subst hjn
 rw [List.drop_length] at hser
 clear hc
 repeat first|refine go ?_|with_reducible intro _
 refine Wk.loop (fun mm L Z' A'=>∃ (t:Nat) (w:Ln) (vi vo:Value) (us:List Value),t≤y.done.length∧mm=y.done.length - t∧Z1=Z'∧us.length=d.thieves.length∧A'=LnA d p1 p2 p3 p4 b bd (d.thieves.length+1) vt w vi vo us++[pt b4 (.cells zD true 0),pt b2 (.cells [.int .i64 d.size,.int .i64 d.room,.bool d.fence,.slice p1 d.owner.length p2,.slice p3 d.thieves.length p4] true 0)]∧w.Ok d∧w=Ln.finT d t y∧Kp L [(2,.pointer (some ⟨b2,0,none⟩)),(4,.pointer (some ⟨b4,0,none⟩)),(5,.int .i64 0),(7,.pointer (some ⟨b,0,none⟩)),(46,.int .i64 y.done.length),(47,.int .i64 t)]) y.done.length ⟨0,y,vi,vo,us,Nat.zero_le _,rfl,rfl,hus,rfl,yok,rfl,Ev.kM⟩ ?_
 clear hus
 rintro mm L Z' A' - ⟨t,w,vi,vo,us,htl,rfl,rfl,hus,rfl,wok,hw,hk⟩
 refine Wk.kp hk ?_
 clear hk
 have hwd:=wok.dn
 repeat first|refine go ?_|with_reducible intro _
 refine Wk.cond rfl (fun hc=>?_) (fun hc=>?_)
 ·have htt:t < y.done.length:=by simp at hc;omega
  clear hc
  repeat first|refine go ?_|with_reducible intro _
  refine Wk.loop (fun mm L Z' A'=>∃ (x:Ln) (vi vo:Value) (us:List Value),mm=(d.many t - x.done.getD t 0).toNat∧Z1=Z'∧us.length=d.thieves.length∧A'=LnA d p1 p2 p3 p4 b bd (d.thieves.length+1) vt x vi vo us++[pt b4 (.cells zD true 0),pt b2 (.cells [.int .i64 d.size,.int .i64 d.room,.bool d.fence,.slice p1 d.owner.length p2,.slice p3 d.thieves.length p4] true 0)]∧x.Ok d∧x.fin d t=w.fin d t∧Kp L [(2,.pointer (some ⟨b2,0,none⟩)),(4,.pointer (some ⟨b4,0,none⟩)),(5,.int .i64 0),(7,.pointer (some ⟨b,0,none⟩)),(10,.int .i64 t),(46,.int .i64 y.done.length),(47,.int .i64 t)]) (d.many t - w.done.getD t 0).toNat ⟨w,vi,vo,us,rfl,rfl,hus,rfl,wok,rfl,Ev.kM⟩ ?_
  clear hus
  rintro mm L Z' A' - ⟨x,vi,vo,us,rfl,rfl,hus,rfl,xok,hx,hk⟩
  refine Wk.kp hk ?_
  clear hk
  have hxd:=xok.dn
  have hxt:t < x.done.length:=by omega
  repeat first|refine go ?_|with_reducible intro _
  refine Wk.call rfl rfl (.l (.l (.l (.l (.l (.l (Spl.none _))))))) (has_ (x:=x) so st hxd hxt ⟨ht,ho⟩) rfl rfl rfl ?_
  rintro v' Z' A' hz ⟨⟨r,rfl,hr⟩,rfl,rfl⟩
  repeat first|refine go ?_|with_reducible intro _
  refine Wk.cond rfl (fun hc=>?_) (fun hc=>?_)
  ·have hyes:x.done[t] < d.many t:=hr.1 hc
   clear hc hr
   repeat first|refine go ?_|with_reducible intro _
   refine Wk.call rfl rfl (.l (.l (.l (.l (.l (.l (Spl.none _))))))) (do_ so xok hxt hyes hus l1 l2 l3 Ev.wM) rfl rfl rfl ?_
   rintro v' Z' A' hz ⟨rfl,vi',vo',us',hus',rfl⟩
   repeat first|refine go ?_|with_reducible intro _
   refine Wk.inv ⟨_,?_,x.step d t,vi',vo',us',rfl,rfl,hus',rfl,xok.step hxt hyes,?_,Ev.kM⟩
   ·rw [Ln.step_done hxt,getD_set hxt,if_pos rfl,getD_at hxt];omega
   ·rw [←hx,Ln.fin_step hxt (by rw [getD_at hxt];exact hyes)]
  ·have hno:¬ x.done[t] < d.many t:=fun k=>by rw [hr.2 k] at hc;cases hc
   clear hc hr
   rw [Ln.fin_end (by rw [getD_at hxt];exact hno)] at hx
   repeat first|refine go ?_|with_reducible intro _
   refine Wk.inv ⟨_,by omega,t+1,x,vi,vo,us,by omega,rfl,rfl,hus,rfl,xok,by rw [hx,hw];rfl,Ev.kM⟩
 have htn:t=y.done.length:=by simp at hc;omega
 subst htn
 clear hc
 rw [hyd] at hw
 have wsz:=wok.sz
 have q0:serF d order (Ln.z d)=some y:=hser
 have e1:serE d order=0:=by unfold serE;rw [if_neg (fun k=>k he),if_neg (by rw [q0];intro k;cases k)]
 have e2:serD d order=⟨w.own,w.th,w.inn⟩:=by unfold serD;rw [if_neg (fun k=>k he),q0,hw]
 refine Wk.know (.tail (.tail .head)) (fun s h=>ol.form (v:=vo) h) ?_
 rintro ⟨ao,co,rfl⟩
 refine Wk.know (.tail (.tail (.tail (.tail .head)))) (fun s h=>ol.form (v:=vt) h) ?_
 rintro ⟨at_,ct,rfl⟩
 refine Wk.oqFreeze .head fun Z2 x2 sI=>?_
 obtain ⟨ai,ci,rfl⟩:=sI.form
 repeat first|refine go ?_|with_reducible intro _
 refine Wk.call rfl rfl (Spl.none _) (cloneI sI Ev.wM) rfl rfl rfl ?_
 rintro v62 Z3 A' hz3 ⟨hcl,rfl⟩
 obtain ⟨a62,c62,rfl⟩:=hcl.form
 repeat first|refine go ?_|with_reducible intro _
 refine Wk.olFreeze (.tail .head) fun Z4 x4 sO=>?_
 refine Wk.innFreeze (.tail .head) fun Z5 x5 sN=>?_
 refine Wk.olFreeze (.tail .head) fun Z6 x6 sT=>?_
 have htl2:=wok.tl
 refine Wk.ret ⟨_,Rs.cell rfl rfl Ev.hM rfl rfl (Rs.tmp rfl Rs.nil),_,Sub.none _,⟨_,by rw [e1];rfl,?_⟩,rfl⟩
 rw [e2]
 refine ⟨_,_,_,us,rfl,sO.mono (x5.trans x6),⟨by show Sl _ 1 _ w.th.length us;rw [htl2];exact sT,?_⟩,hcl.mono ((x4.trans x5).trans x6)⟩
 exact (all2_unmap sN).mono fun u l h=>by rw [nums_len] at h;exact h.mono x6
end Go.Proofs.J
namespace Go.Proofs.J
open Go.Ev Go
end Go.Proofs.J
