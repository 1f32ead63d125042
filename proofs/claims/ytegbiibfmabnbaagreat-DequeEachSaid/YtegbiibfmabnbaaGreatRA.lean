/- RA -/
import Derived.Test.YtegbiibfmabnbaaGreatQI
import Derived.Test.YtegbiibfmabnbaaGreatPL
import Derived.Test.YtegbiibfmabnbaaGreatEvF
set_option linter.unusedVariables false
set_option maxHeartbeats 4000000
set_option linter.unusedSimpArgs false
set_option maxRecDepth 100000
namespace Go.Proofs.J
open Go.Ev Go
theorem indexOwnF {Z:Zone} {b n cp:Nat} {l:List Int} {fv:Value} (p:Int→Prop) (hn:l.length=n) (hs:n≤1000000)
  (hp:∀ x∈l,Cz M fv [.int .i64 x] Z [] (fun v' Z' A'=>Bis v' (p x)∧Z=Z'∧A'=[])) :
  Cz M (.func (.func 131) #[] #[]) [.slice (some ⟨b,0,none⟩) n cp,fv] Z [olp b 1 (.slice (some ⟨b,0,none⟩) n cp) n (nums l)] (fun v' Z' A'=>(∃ r:Int,v'=.int .i64 r∧((∃ (i:Nat) (h:i < l.length),r=i∧p l[i]∧∀ j (h:j < l.length),j < i→¬ p l[j])∨(r=-1∧∀ x∈l,¬ p x)))∧Z=Z'∧A'=[olp b 1 (.slice (some ⟨b,0,none⟩) n cp) n (nums l)]):=by
 refine Cz.fn (f:=Tryz.f131) (by kernel_rfl) rfl rfl rfl _ rfl ?_
 repeat first|refine go ?_|with_reducible intro _
 refine Wk.loop (fun mm L Z' A'=>∃ j:Nat,j≤n∧mm=n - j∧Z=Z'∧A'=[olp b 1 (.slice (some ⟨b,0,none⟩) n cp) n (nums l)]∧(∀ i (h:i < l.length),i < j→¬ p l[i])∧Kp L [(0,.slice (some ⟨b,0,none⟩) n cp),(1,fv),(6,.slice (some ⟨b,0,none⟩) n cp),(7,.int .i64 n),(8,.int .i64 j)]) n ⟨0,Nat.zero_le _,rfl,rfl,rfl,fun _ _ h=>by omega,(by repeat (first|exact trivial|refine And.intro rfl ?_|refine And.intro (kpI rfl (by omega)) ?_))⟩ ?_
 rintro mm L Z' A' - ⟨j,hj,rfl,rfl,rfl,hno,hk⟩
 refine Wk.kp hk ?_
 clear hk
 repeat first|refine go ?_|with_reducible intro _
 refine Wk.cond rfl (fun hc=>?_) (fun hc=>?_)
 ·have hlt:j < n:=by simp at hc;omega
  clear hc
  repeat first|refine go ?_|with_reducible intro _
  refine Wk.iaV j rfl rfl rfl rfl rfl rfl rfl hlt ?_
  refine Wk.loadOlp (cs:=[_]) rfl rfl (by repeat (first|exact Rem.head|apply Rem.tail)) (nums_get (i:=j) (by omega) (by omega)) rfl rfl rfl ?_
  repeat first|refine go ?_|with_reducible intro _
  refine Wk.call rfl rfl (Spl.none _) (hp l[j] (List.getElem_mem _)) rfl rfl rfl ?_
  rintro v' Z' A' hz ⟨⟨r,rfl,hr⟩,rfl,rfl⟩
  repeat first|refine go ?_|with_reducible intro _
  refine Wk.cond rfl (fun hc=>?_) (fun hc=>?_)
  ·repeat first|refine go ?_|with_reducible intro _
   refine Wk.ret ⟨_,Rs.tmp rfl Rs.nil,_,Sub.refl _,⟨_,rfl,.inl ⟨j,by omega,rfl,hr.1 hc,hno⟩⟩,rfl,rfl⟩
  ·have hnp:¬ p l[j]:=fun h=>by rw [hr.2 h] at hc;cases hc
   clear hc
   repeat first|refine go ?_|with_reducible intro _
   refine Wk.inv ⟨_,by omega,j+1,hlt,rfl,rfl,rfl,fun i h hi=>?_,(by repeat (first|exact trivial|refine And.intro rfl ?_|refine And.intro (kpI rfl (by omega)) ?_))⟩
   by_cases e:i=j
   ·subst e;exact hnp
   ·exact hno i h (by omega)
 ·have hjn:j=n:=by simp at hc;omega
  repeat first|refine go ?_|with_reducible intro _
  refine Wk.ret ⟨_,Rs.tmp rfl Rs.nil,_,Sub.refl _,⟨_,rfl,.inr ⟨rfl,fun x hx=>?_⟩⟩,rfl,rfl⟩
  obtain ⟨i,hi,rfl⟩:=List.getElem_of_mem hx
  exact hno i hi (by omega)
open Classical in
noncomputable def flt (p:Int→Prop) (l:List Int):List Int:=l.filter fun x=>decide (¬ p x)
theorem flt_all {p:Int→Prop} {l:List Int} (h:∀ x∈l,¬ p x):flt p l=l:=by
 unfold flt;rw [List.filter_eq_self];intro x hx;simp [h x hx]
theorem flt_snoc {p:Int→Prop} {l:List Int} {x:Int}:(¬ p x→flt p (l++[x])=flt p l++[x])∧(p x→flt p (l++[x])=flt p l):=by
 unfold flt
 constructor
 ·intro h;rw [List.filter_append];simp [h]
 ·intro h;rw [List.filter_append];simp [h]
theorem delOwn {Z:Zone} {b n cp:Nat} {l:List Int} {fv:Value} (p:Int→Prop) (hn:l.length=n) (hs:n≤1000000) (hcap:n≤cp)
  (hp:∀ x∈l,Cz M fv [.int .i64 x] Z [] (fun v' Z' A'=>Bis v' (p x)∧Z=Z'∧A'=[])) :
  Cz M (.func (.func 72) #[] #[]) [.slice (some ⟨b,0,none⟩) n cp,fv] Z [olp b 1 (.slice (some ⟨b,0,none⟩) n cp) n (nums l)] (fun v' Z' A'=>Z=Z'∧A'=[ol 1 v' (flt p l).length (nums (flt p l))]):=by
 refine Cz.fn (f:=Tryz.f72) (by kernel_rfl) rfl rfl rfl _ rfl ?_
 repeat first|refine go ?_|with_reducible intro _
 refine Wk.call rfl rfl (.l .nil) (indexOwnF p hn hs hp) rfl rfl rfl ?_
 rintro v' Z' A' hz ⟨⟨r,rfl,hr⟩,rfl,rfl⟩
 rcases hr with ⟨i,hi,rfl,hpi,hfirst⟩|⟨rfl,hno⟩
 ·have h0:flt p (l.take (i+1))=l.take i:=by
   rw [List.take_succ_eq_append_getElem hi,flt_snoc.2 hpi]
   refine flt_all fun x hx=>?_
   obtain ⟨y,hy,rfl⟩:=List.getElem_of_mem hx
   rw [List.length_take] at hy
   rw [List.getElem_take]
   exact hfirst y (by omega) (by omega)
  repeat first|refine go ?_|with_reducible intro _
  refine Wk.loop (fun mm L Z' A'=>∃ (j k:Nat) (a:List Int),j≤n∧k < j∧mm=n - j∧Z=Z'∧A'=[olp b 1 (.slice (some ⟨b,0,none⟩) n cp) n (nums a)]∧a.length=n∧a.take k=flt p (l.take j)∧(∀ x,j≤x→a[x]?=l[x]?)∧Kp L [(0,.slice (some ⟨b,0,none⟩) n cp),(1,fv),(5,.int .i64 k),(6,.int .i64 j)]) (n - (i+1)) ⟨i+1,i,l,by omega,by omega,rfl,rfl,rfl,hn,h0.symm,fun _ _=>rfl,(by repeat (first|exact trivial|refine And.intro rfl ?_|refine And.intro (kpI rfl (by omega)) ?_))⟩ ?_
  rintro mm L Z' A' - ⟨j,k,a,hj,hkj,rfl,rfl,rfl,hal,hak,hax,hk⟩
  refine Wk.kp hk ?_
  clear hk
  repeat first|refine go ?_|with_reducible intro _
  refine Wk.cond rfl (fun hc=>?_) (fun hc=>?_)
  ·have hlt:j < n:=by simp at hc;omega
   clear hc
   have e1:a[j]?=l[j]?:=hax j (Nat.le_refl _)
   rw [List.getElem?_eq_getElem (by omega),List.getElem?_eq_getElem (by omega)] at e1
   have e2:=Option.some.inj e1
   repeat first|refine go ?_|with_reducible intro _
   refine Wk.iaV j rfl rfl rfl rfl rfl rfl rfl hlt ?_
   refine Wk.loadOlp (cs:=[_]) rfl rfl (by repeat (first|exact Rem.head|apply Rem.tail)) (nums_get (i:=j) (by omega) (by omega)) rfl rfl rfl ?_
   rw [e2]
   repeat first|refine go ?_|with_reducible intro _
   refine Wk.call rfl rfl (Spl.none _) (hp l[j] (List.getElem_mem _)) rfl rfl rfl ?_
   rintro v' Z' A' hz ⟨⟨r,rfl,hr⟩,rfl,rfl⟩
   repeat first|refine go ?_|with_reducible intro _
   refine Wk.cond rfl (fun hc=>?_) (fun hc=>?_)
   ·have hnp:¬ p l[j]:=fun h=>by rw [hr.2 h] at hc;cases hc
    clear hc
    repeat first|refine go ?_|with_reducible intro _
    refine Wk.iaV k rfl rfl rfl rfl rfl rfl rfl (by omega) ?_
    refine Wk.storeOlp rfl rfl rfl rfl rfl (by repeat (first|exact Rem.head|apply Rem.tail)) (nums_set (i:=k) (by omega) (by omega)) (by kernel_rfl) rfl ?_
    repeat first|refine go ?_|with_reducible intro _
    refine Wk.inv ⟨_,by omega,j+1,k+1,_,hlt,by omega,rfl,rfl,rfl,by simpa using hal,?_,fun x hx=>?_,(by repeat (first|exact trivial|refine And.intro rfl ?_|refine And.intro (kpI rfl (by omega)) ?_))⟩
    ·have q1:flt p (l.take (j+1))=flt p (l.take j)++[l[j]]:=by rw [List.take_succ_eq_append_getElem (by omega),flt_snoc.1 hnp]
     rw [q1,←hak,List.take_succ_eq_append_getElem (by simp;omega),List.take_set,List.set_eq_of_length_le (by simp;omega)]
     simp
    ·rw [List.getElem?_set_ne (by omega)];exact hax x (by omega)
   ·have hyp:p l[j]:=hr.1 (by simpa using hc)
    clear hc
    repeat first|refine go ?_|with_reducible intro _
    refine Wk.inv ⟨_,by omega,j+1,k,a,hlt,by omega,rfl,rfl,rfl,hal,?_,fun x hx=>hax x (by omega),(by repeat (first|exact trivial|refine And.intro rfl ?_|refine And.intro (kpI rfl (by omega)) ?_))⟩
    rw [List.take_succ_eq_append_getElem (by omega),flt_snoc.2 hyp,hak]
  ·have hjn:j=n:=by simp at hc;omega
   subst hjn
   clear hc
   have hlj:l.take j=l:=List.take_of_length_le (by omega)
   rw [hlj] at hak
   have hil:(flt p l).length=k:=by rw [←hak,List.length_take];omega
   repeat first|refine go ?_|with_reducible intro _
   refine Wk.v (v:=.slice (some ⟨b,0+k*1,none⟩) (j - k) (cp - k)) rfl rfl rfl (Rd.sliceOlp (l:=k) (h:=j) (m:=cp) (by repeat (first|exact Rem.head|apply Rem.tail)) rfl rfl rfl rfl rfl rfl rfl rfl rfl (abounds_lo (by omega) hcap)) ?_
   repeat first|refine go ?_|with_reducible intro _
   refine Wk.e0 rfl rfl (Ef.clearOlp rfl rfl rfl rfl rfl (by repeat (first|exact Rem.head|apply Rem.tail)) rfl (nums_clear (k:=k) (by omega) (by omega)) ⟨PnAll.nil,?_⟩)
   repeat first|refine go ?_|with_reducible intro _
   refine Wk.v (v:=.slice (some ⟨b,0+0*1,none⟩) (k - 0) (cp - 0)) rfl rfl rfl (Rd.sliceOlp (l:=0) (h:=k) (m:=cp) (by repeat (first|exact Rem.head|apply Rem.tail)) rfl rfl rfl rfl rfl rfl rfl rfl rfl (abounds_hi (by omega) hcap)) ?_
   repeat first|refine go ?_|with_reducible intro _
   refine Wk.alter (C:=[ol 1 (.slice (some ⟨b,0,none⟩) k cp) k ((nums (a.take k++List.replicate (j - k) 0)).take (k*1))]) (by repeat (first|exact Rem.head|apply Rem.tail)) (fun s h=>Sat.one (olp.short (by omega) h)) ?_
   refine Wk.ret ⟨_,Rs.tmp rfl Rs.nil,_,Sub.refl _,rfl,?_⟩
   have e3:(nums (a.take k++List.replicate (j - k) 0)).take (k*1)=nums (flt p l):=by
    rw [Nat.mul_one,←hak,nums_append,List.take_append_of_le_length (by simp;omega),List.take_of_length_le (by simp;omega)]
   rw [e3,hil]
   simp [outOf]
 ·have h0:=flt_all hno
  repeat first|refine go ?_|with_reducible intro _
  refine Wk.alter (C:=[ol 1 (.slice (some ⟨b,0,none⟩) n cp) n (nums l)]) (by repeat (first|exact Rem.head|apply Rem.tail)) (fun s h=>Sat.one (olp.ol h)) ?_
  refine Wk.ret ⟨_,Rs.tmp rfl Rs.nil,_,Sub.refl _,rfl,?_⟩
  rw [h0,hn]
  simp [outOf]
end Go.Proofs.J
namespace Go.Proofs.J
open Go.Ev Go
def AscR (P l:List Int):Prop:=(∀ x∈its l,x∈P)∧AscQ P (its l)
theorem ow_at {e:De} {j:Nat} (h:j < e.ow.length):e.ow.getD j 0=e.ow[j]:=by simp [h]
end Go.Proofs.J
namespace Go.Proofs.J
open Go.Ev Go
def RwOk (d:Dq) (e:De) (i:Nat):Prop:=∀ (h:i < d.thieves.length) (k:i < e.th.length),(e.th[i].length:Int)=d.thieves[i]∧∀ x∈e.th[i],Item x∨x=0∨x=-1
def AnOk (d:Dq) (e:De) (i:Nat):Prop:=∀ (h:i < d.owner.length) (k:i < e.ow.length),Ans d.owner[i] e.ow[i]
theorem TR.of {d:Dq} {e:De} (h1:e.ow.length=d.owner.length) (h2:e.th.length=d.thieves.length) (h3:∀ i,i < d.owner.length→AnOk d e i) (h4:∀ i,i < d.thieves.length→RwOk d e i):TR d e:=⟨h1,h2,fun i h k=>h3 i h h k,fun i h k=>h4 i h h k⟩
theorem upTo {P:Nat→Prop} {j:Nat} (h:∀ i,i < j→P i) (k:P j):∀ i,i < j+1→P i:=fun i hi=>by
 by_cases e:i=j
 ·subst e;exact k
 ·exact h i (by omega)
theorem row_get {Z:Zone} {us:List Value} {th:List (List Int)} (h:All2 (fun u l=>Sl Z 1 u l.length (nums l)) us th) {i:Nat} (hi:i < th.length):∃ a c,getCells us (i*1) 1=some [.slice a th[i].length c]∧Sl Z 1 (.slice a th[i].length c) th[i].length (nums th[i]):=by
 obtain ⟨u,hu,hs⟩:=h.getElem hi
 obtain ⟨a,c,rfl⟩:=hs.form
 exact ⟨a,c,getCells_one (by rw [Nat.mul_one];exact hu),hs⟩
end Go.Proofs.J
namespace Go.Proofs.J
open Go.Ev Go
def allR (d:Dq) (e:De):List Int:=(e.lf++pops d e d.owner.length)++e.th.flatMap its
theorem sound_ref {d:Dq} {e:De} (ok:d.Ok):SoundP d e↔TR d e∧(∀ l∈e.th,AscR (Pq d e) l)∧(allR d e).length=(Pq d e).length∧AscR (Pq d e) e.lf∧(∀ x∈allR d e,x∈Pq d e)∧(allR d e).Nodup:=by
 have hq:allQ d e=(pops d e d.owner.length++e.th.flatMap its)++its e.lf:=by
  unfold allQ;rw [List.flatMap_append,List.append_assoc];simp
 have hp:(∀ x∈e.lf,Item x)→(allR d e).Perm (allQ d e):=fun h=>by
  have:its e.lf=e.lf:=List.filter_eq_self.2 fun x hx=>by simpa using h x hx
  rw [hq,this];unfold allR
  rw [List.append_assoc]
  exact List.perm_append_comm
 constructor
 ·rintro ⟨h1,h2,h3,h4,h5,h6⟩
  have p:=hp h2
  refine ⟨h1,fun l hl=>⟨fun x hx=>h4 x ((its_sub_all (List.mem_append_left _ hl)).subset hx),h6 l (List.mem_append_left _ hl)⟩,by rw [p.length_eq,h5],⟨fun x hx=>h4 x ((its_sub_all (by simp)).subset hx),h6 _ (by simp)⟩,fun x hx=>h4 x (p.mem_iff.1 hx),p.nodup_iff.2 h3⟩
 ·rintro ⟨h1,h2,h3,h4,h5,h6⟩
  have hl:∀ x∈e.lf,Item x:=fun x hx=>Pq_item ok x (h5 x (by unfold allR;simp [hx]))
  have p:=hp hl
  refine ⟨h1,hl,p.nodup_iff.1 h6,fun x hx=>h5 x (p.mem_iff.2 hx),by rw [←p.length_eq,h3],fun l hl=>?_⟩
  rcases List.mem_append.1 hl with q|q
  ·exact (h2 l q).2
  ·rw [List.mem_singleton.1 q];exact h4.2
theorem ans_false {d:Dq} {e:De} {j:Nat} {n:Int} (t:TR d e) (h:j < d.owner.length) (k:j < e.ow.length) (hA:d.owner[j]=⟨false,n⟩):Item e.ow[j]∨e.ow[j]=0:=by
 have:=t.an j h k
 rw [hA] at this
 simpa [Ans] using this
theorem pops_len {d:Dq} {e:De}:∀ j,(pops d e j).length≤j
 | 0=>by simp [pops]
 | j+1=>by
  have:=pops_len (d:=d) (e:=e) j
  rw [pops,List.length_append]
  split<;>simp<;>omega
theorem flat_its_len:∀ {l:List (List Int)} {b:Nat},(∀ x∈l,x.length≤b)→(l.flatMap its).length≤l.length*b
 | [],b,_=>by simp
 | x::l,b,h=>by
  have h1:=flat_its_len fun y hy=>h y (List.mem_cons_of_mem x hy)
  have h2:=h x (List.mem_cons_self ..)
  have h3:(its x).length≤x.length:=List.length_filter_le ..
  rw [List.flatMap_cons,List.length_append,List.length_cons,Nat.add_mul]
  omega
end Go.Proofs.J
namespace Go.Proofs.J
open Go.Ev Go
theorem isAnswer_ {Z:Zone} {a:Act} {x:Int}:Cz M (.func (.func 165) #[] #[]) [.agg ⟨actC a⟩,.int .i64 x] Z [] (fun v' Z' A'=>Bis v' (Ans a x)∧Z=Z'∧A'=[]):=by
 obtain ⟨p,n⟩:=a
 cases p with
 | true =>
  refine Cz.fn (f:=Tryz.f165) (by kernel_rfl) rfl rfl rfl _ rfl ?_
  repeat first|refine go ?_|with_reducible intro _
  refine Wk.caser 11 rfl (fun hc=>?_) (fun hc=>?_)
  ·have e:x=n:=by simpa using hc
   repeat first|refine go ?_|with_reducible intro _
   refine Wk.ret ⟨_,Rs.tmp rfl Rs.nil,_,Sub.none _,Bis.of (by simp [Ans,e]),rfl,rfl⟩
  ·have e:x≠n:=by simpa using hc
   repeat first|refine go ?_|with_reducible intro _
   refine Wk.ret ⟨_,Rs.tmp rfl Rs.nil,_,Sub.none _,Bis.of (by simp [Ans,e]),rfl,rfl⟩
 | false =>
  refine Cz.fn (f:=Tryz.f165) (by kernel_rfl) rfl rfl rfl _ rfl ?_
  repeat first|refine go ?_|with_reducible intro _
  refine Wk.call rfl rfl (Spl.none _) (isItem_) rfl rfl rfl ?_
  rintro v' Z' A' hz ⟨⟨b,rfl,hb⟩,rfl,rfl⟩
  repeat first|refine go ?_|with_reducible intro _
  refine Wk.caser 17 rfl (fun hc=>?_) (fun hc=>?_)
  ·have e:Item x:=hb.1 hc
   repeat first|refine go ?_|with_reducible intro _
   refine Wk.ret ⟨_,Rs.tmp rfl Rs.nil,_,Sub.none _,Bis.of (by simp [Ans,e]),rfl,rfl⟩
  ·have e:¬ Item x:=fun q=>by rw [hb.2 q] at hc;cases hc
   repeat first|refine go ?_|with_reducible intro _
   refine Wk.ret ⟨_,Rs.tmp rfl Rs.nil,_,Sub.none _,Bis.of (by simp [Ans,e]),rfl,rfl⟩
theorem odd1 {Z:Zone} {x:Int}:Cz M (.func (.func 166) #[] #[]) [.int .i64 x] Z [] (fun v' Z' A'=>Bis v' (¬ (Item x∨x=0∨x=-1))∧Z=Z'∧A'=[]):=by
 refine Cz.fn (f:=Tryz.f166) (by kernel_rfl) rfl rfl rfl _ rfl ?_
 repeat first|refine go ?_|with_reducible intro _
 refine Wk.call rfl rfl (Spl.none _) (isItem_) rfl rfl rfl ?_
 rintro v' Z' A' hz ⟨⟨b,rfl,hb⟩,rfl,rfl⟩
 repeat first|refine go ?_|with_reducible intro _
 refine Wk.caser 6 rfl (fun hc=>?_) (fun hc=>?_)
 ·have e:¬ Item x:=fun q=>by rw [hb.2 q] at hc;cases hc
  repeat first|refine go ?_|with_reducible intro _
  refine Wk.caser 10 rfl (fun hd=>?_) (fun hd=>?_)
  ·have e2:x≠0:=by simpa using hd
   repeat first|refine go ?_|with_reducible intro _
   refine Wk.ret ⟨_,Rs.tmp rfl Rs.nil,_,Sub.none _,Bis.of (by simp [e,e2]),rfl,rfl⟩
  ·have e2:x=0:=by simpa using hd
   repeat first|refine go ?_|with_reducible intro _
   refine Wk.ret ⟨_,Rs.tmp rfl Rs.nil,_,Sub.none _,Bis.of (by simp [e2]),rfl,rfl⟩
 ·have e:Item x:=hb.1 (by simpa using hc)
  repeat first|refine go ?_|with_reducible intro _
  refine Wk.ret ⟨_,Rs.tmp rfl Rs.nil,_,Sub.none _,Bis.of (by simp [e]),rfl,rfl⟩
theorem notItem1 {Z:Zone} {x:Int}:Cz M (.func (.func 167) #[] #[]) [.int .i64 x] Z [] (fun v' Z' A'=>Bis v' (¬ Item x)∧Z=Z'∧A'=[]):=by
 refine Cz.fn (f:=Tryz.f167) (by kernel_rfl) rfl rfl rfl _ rfl ?_
 repeat first|refine go ?_|with_reducible intro _
 refine Wk.call rfl rfl (Spl.none _) (isItem_) rfl rfl rfl ?_
 rintro v' Z' A' hz ⟨⟨b,rfl,hb⟩,rfl,rfl⟩
 repeat first|refine go ?_|with_reducible intro _
 refine Wk.ret ⟨_,Rs.tmp rfl Rs.nil,_,Sub.none _,Bis.of (by rw [←hb];simp),rfl,rfl⟩
theorem notItem2 {Z:Zone} {x:Int}:Cz M (.func (.func 129) #[] #[]) [.int .i64 x] Z [] (fun v' Z' A'=>Bis v' (¬ Item x)∧Z=Z'∧A'=[]):=by
 refine Cz.fn (f:=Tryz.f129) (by kernel_rfl) rfl rfl rfl _ rfl ?_
 repeat first|refine go ?_|with_reducible intro _
 refine Wk.call rfl rfl (Spl.none _) (isItem_) rfl rfl rfl ?_
 rintro v' Z' A' hz ⟨⟨b,rfl,hb⟩,rfl,rfl⟩
 repeat first|refine go ?_|with_reducible intro _
 refine Wk.ret ⟨_,Rs.tmp rfl Rs.nil,_,Sub.none _,Bis.of (by rw [←hb];simp),rfl,rfl⟩
theorem cloneIo {Z:Zone} {v:Value} {m:Nat} {vs:List Value} (h:Sl Z 1 v m vs) (hm:m≤1000000) (ok:okCells vs=true):Cz M (.func (.func 51) #[] #[]) [v] Z [] (fun v' Z' A'=>Z=Z'∧A'=[ol 1 v' m vs]):=by
 have hl:=h.length
 have h0:=h
 rcases h with ⟨rfl,rfl,rfl⟩|⟨b,off,c,xs,wr,g,rfl,h2,h3,h4,h5⟩
 ·refine Cz.fn (f:=Tryz.f51) (by kernel_rfl) rfl rfl rfl _ rfl ?_
  repeat first|refine go ?_|with_reducible intro _
  refine Wk.olNil 1 ?_
  refine Wk.ret ?_
  exact ⟨_,Rs.tmp rfl Rs.nil,_,Sub.refl _,rfl,rfl⟩
 ·refine Cz.fn (f:=Tryz.f51) (by kernel_rfl) rfl rfl rfl _ rfl ?_
  repeat first|refine go ?_|with_reducible intro _
  refine Wk.bs rfl rfl rfl rfl rfl rfl rfl fun b5=>?_
  repeat first|refine go ?_|with_reducible intro _
  refine Wk.alterr (C:=[ol 1 (.slice (some ⟨b5,0,none⟩) 0 0) 0 []]) (by repeat (first|exact Rem.head|apply Rem.tail)) (fun s h=>ol_of_pt (m:=0) (vs:=[]) (g:=0) rfl (.inl rfl) rfl h) ?_
  refine Wk.append rfl rfl rfl rfl rfl rfl rfl rfl Rem.head (Src.sl h0) rfl ok hl (by omega) (by omega) rfl rfl rfl fun v7=>?_
  repeat first|refine go ?_|with_reducible intro _
  refine Wk.ret ?_
  exact ⟨_,Rs.tmp rfl Rs.nil,_,Sub.refl _,rfl,by simp only [Nat.zero_add,List.nil_append];rfl⟩
theorem cloneLo {Z:Zone} {v:Value} {m:Nat} {vs:List Value} (h:Sl Z 1 v m vs) (hm:m≤1000000) (ok:okCells vs=true):Cz M (.func (.func 125) #[] #[]) [v] Z [] (fun v' Z' A'=>Z=Z'∧A'=[ol 1 v' m vs]):=by
 have hl:=h.length
 have h0:=h
 rcases h with ⟨rfl,rfl,rfl⟩|⟨b,off,c,xs,wr,g,rfl,h2,h3,h4,h5⟩
 ·refine Cz.fn (f:=Tryz.f125) (by kernel_rfl) rfl rfl rfl _ rfl ?_
  repeat first|refine go ?_|with_reducible intro _
  refine Wk.olNil 1 ?_
  refine Wk.ret ?_
  exact ⟨_,Rs.tmp rfl Rs.nil,_,Sub.refl _,rfl,rfl⟩
 ·refine Cz.fn (f:=Tryz.f125) (by kernel_rfl) rfl rfl rfl _ rfl ?_
  repeat first|refine go ?_|with_reducible intro _
  refine Wk.bs rfl rfl rfl rfl rfl rfl rfl fun b5=>?_
  repeat first|refine go ?_|with_reducible intro _
  refine Wk.alterr (C:=[ol 1 (.slice (some ⟨b5,0,none⟩) 0 0) 0 []]) (by repeat (first|exact Rem.head|apply Rem.tail)) (fun s h=>ol_of_pt (m:=0) (vs:=[]) (g:=0) rfl (.inl rfl) rfl h) ?_
  refine Wk.append rfl rfl rfl rfl rfl rfl rfl rfl Rem.head (Src.sl h0) rfl ok hl (by omega) (by omega) rfl rfl rfl fun v7=>?_
  repeat first|refine go ?_|with_reducible intro _
  refine Wk.ret ?_
  exact ⟨_,Rs.tmp rfl Rs.nil,_,Sub.refl _,rfl,by simp only [Nat.zero_add,List.nil_append];rfl⟩
theorem ixNil {Z:Zone} {v fv:Value}:Cz M (.func (.func 131) #[] #[]) [v,fv] Z [ol 1 v 0 []] (fun v' Z' A'=>v'=.int .i64 (-1)∧Z=Z'∧A'=[ol 1 v 0 []]):=by
 refine Cz.fn (f:=Tryz.f131) (by kernel_rfl) rfl rfl rfl _ rfl ?_
 refine Wk.know (by repeat (first|exact Rem.head|apply Rem.tail)) (fun s h=>ol.form (v:=v) h) ?_
 rintro ⟨q,c,rfl⟩
 repeat first|refine go ?_|with_reducible intro _
 refine Wk.loop (fun mm L Z' A'=>mm=0∧Z=Z'∧A'=[ol 1 (.slice q 0 c) 0 []]∧Kp L [(7,.int .i64 0),(8,.int .i64 0)]) 0 ⟨rfl,rfl,rfl,(by repeat (first|exact trivial|refine And.intro rfl ?_|refine And.intro (kpI rfl (by omega)) ?_))⟩ ?_
 rintro mm L Z' A' - ⟨rfl,rfl,rfl,hk⟩
 refine Wk.kp hk ?_
 clear hk
 repeat first|refine go ?_|with_reducible intro _
 refine Wk.ret ⟨_,Rs.tmp rfl Rs.nil,_,Sub.refl _,rfl,rfl,rfl⟩
theorem delOl {Z:Zone} {v fv:Value} {l:List Int} (p:Int→Prop) (hs:l.length≤1000000)
  (hp:∀ x∈l,Cz M fv [.int .i64 x] Z [] (fun v' Z' A'=>Bis v' (p x)∧Z=Z'∧A'=[])) :
  Cz M (.func (.func 72) #[] #[]) [v,fv] Z [ol 1 v l.length (nums l)] (fun v' Z' A'=>Z=Z'∧A'=[ol 1 v' (flt p l).length (nums (flt p l))]):=by
 by_cases h0:l=[]
 ·subst h0
  refine Cz.fn (f:=Tryz.f72) (by kernel_rfl) rfl rfl rfl _ rfl ?_
  repeat first|refine go ?_|with_reducible intro _
  refine Wk.call rfl rfl (.l .nil) ixNil rfl rfl rfl ?_
  rintro v' Z' A' hz ⟨rfl,rfl,rfl⟩
  repeat first|refine go ?_|with_reducible intro _
  refine Wk.ret ⟨_,Rs.tmp rfl Rs.nil,_,Sub.refl _,rfl,?_⟩
  simp [flt,outOf]
 ·refine Cz.olOpen (List.length_pos_iff.2 h0) fun b cp hv hcp=>?_
  subst hv
  exact delOwn p rfl hs hcp hp
theorem flt_its (l:List Int):flt (fun x=>¬ Item x) l=its l:=by
 unfold flt its
 exact List.filter_congr fun x _=>by simp
theorem items_ {Z:Zone} {v:Value} {l:List Int} (s:Sl Z 1 v l.length (nums l)) (hs:l.length≤1000000) :
  Cz M (.func (.func 126) #[] #[]) [v] Z [] (fun v' Z' A'=>Z=Z'∧A'=[ol 1 v' (its l).length (nums (its l))]):=by
 refine Cz.fn (f:=Tryz.f126) (by kernel_rfl) rfl rfl rfl _ rfl ?_
 repeat first|refine go ?_|with_reducible intro _
 refine Wk.call rfl rfl (Spl.none _) (cloneIo s hs (ok_nums l)) rfl rfl rfl ?_
 rintro v5 Z' A' hz ⟨rfl,rfl⟩
 repeat first|refine go ?_|with_reducible intro _
 refine Wk.call rfl rfl (.l .nil) (delOl (fun x=>¬ Item x) hs fun x hx=>notItem1) rfl rfl rfl ?_
 rintro v' Z' A' hz ⟨rfl,rfl⟩
 rw [flt_its]
 repeat first|refine go ?_|with_reducible intro _
 refine Wk.ret ⟨_,Rs.tmp rfl Rs.nil,_,Sub.refl _,rfl,rfl⟩
abbrev mpI (es:List (Int×Nat)):List (Int×Value):=es.map fun p=>(p.1,.int .i64 (p.2:Int))
abbrev mpO (es:List (Int×Value)):AObj:=.map (es.map fun p=>(Value.int .i64 p.1,p.2))
theorem find_gAt {q:IntKind} {x:Int}:∀ {es:List (Int×Nat)} {i:Nat},(findI q x (mpI es) i=none∧gAt es x=0∧x∉es.map (·.1))∨∃ j,findI q x (mpI es) i=some (j,.int .i64 (gAt es x:Int))∧x∈es.map (·.1)
 | [],i=>.inl ⟨rfl,rfl,by simp⟩
 | (a,n)::es,i=>by
  by_cases h:x=a
  ·subst h
   refine .inr ⟨i,?_,by simp⟩
   simp [mpI,findI,gAt]
  ·have h':¬ a=x:=fun e=>h e.symm
   have eg:gAt ((a,n)::es) x=gAt es x:=by simp [gAt,h']
   have ef:findI q x (mpI ((a,n)::es)) i=findI q x (mpI es) (i+1):=by simp [mpI,findI,h]
   rw [eg,ef]
   rcases find_gAt (q:=q) (x:=x) (es:=es) (i:=i+1) with ⟨h1,h2,h3⟩|⟨j,h1,h2⟩
   ·exact .inl ⟨h1,h2,by simp only [List.map_cons,List.mem_cons,not_or];exact ⟨h,h3⟩⟩
   ·exact .inr ⟨j,h1,by simp only [List.map_cons,List.mem_cons];exact .inr h2⟩
theorem gAt_le {es:List (Int×Nat)} {x:Int} {b:Nat} (h:∀ p∈es,p.2≤b):gAt es x≤b:=by
 unfold gAt
 cases e:es.find? fun p=>decide (p.1=x) with
 | none=>simp
 | some p=>simpa using h p (List.mem_of_find?_eq_some e)
theorem gets {es:List (Int×Nat)} {x:Int} {j:TI} (hj:ofCells j j.zero=some (.int .i64 0)):∃ f,findI .i64 x (mpI es) 0=f∧foundOr j f=some (.int .i64 (gAt es x:Int),decide (x∈es.map (·.1))):=by
 rcases find_gAt (q:=.i64) (x:=x) (es:=es) (i:=0) with ⟨h1,h2,h3⟩|⟨i,h1,h2⟩
 ·exact ⟨_,h1,by rw [h2];simp only [foundOr,hj,Option.map_some,h3,decide_false];rfl⟩
 ·exact ⟨_,h1,by simp only [foundOr,h2,decide_true]⟩
theorem cmpPl {Z:Zone} {b5 bm:Nat} {es:List (Int×Nat)} {x y:Int} (h5:Z b5=some (.cells [.map (some bm)] true 0)) (hm:Z bm=some (mpO (mpI es))) (hb:∀ p∈es,p.2≤1000) :
  Cz M (.func (.func 128) #[] ⟨[.pointer (some ⟨b5,0,none⟩)]⟩) [.int .i64 x,.int .i64 y] Z [] (fun v' Z' A'=>v'=.int .i64 ((gAt es x:Int) - gAt es y)∧Z=Z'∧A'=[]):=by
 have b1:=gAt_le (x:=x) hb
 have b2:=gAt_le (x:=y) hb
 obtain ⟨f1,k1,g1⟩:=gets (es:=es) (x:=x) (j:=⟨.int .i64,1,8,[.int .i64 0],true⟩) rfl
 obtain ⟨f2,k2,g2⟩:=gets (es:=es) (x:=y) (j:=⟨.int .i64,1,8,[.int .i64 0],true⟩) rfl
 refine Cz.fn (f:=Tryz.f128) (by kernel_rfl) rfl rfl rfl _ rfl ?_
 repeat first|refine go ?_|with_reducible intro _
 refine Wk.lookup rfl rfl rfl rfl (.inl hm) rfl ((keyFind_int rfl x _ 0).trans (by rw [k1])) g1 rfl rfl rfl ?_
 repeat first|refine go ?_|with_reducible intro _
 refine Wk.lookup rfl rfl rfl rfl (.inl hm) rfl ((keyFind_int rfl y _ 0).trans (by rw [k2])) g2 rfl rfl rfl ?_
 repeat first|refine go ?_|with_reducible intro _
 refine Wk.ret ⟨_,Rs.tmp rfl Rs.nil,_,Sub.none _,rfl,rfl,rfl⟩
theorem sortedPl {Z:Zone} {v fv:Value} {l:List Int} {es:List (Int×Nat)} (s:Sl Z 1 v l.length (nums l)) (hs:l.length≤1000000)
  (hp:∀ x y,Cz M fv [.int .i64 x,.int .i64 y] Z [] (fun v' Z' A'=>v'=.int .i64 ((gAt es x:Int) - gAt es y)∧Z=Z'∧A'=[])) :
  Cz M (.func (.func 127) #[] #[]) [v,fv] Z [] (fun v' Z' A'=>Bis v' (SrtG es l)∧Z=Z'∧A'=[]):=by
 obtain ⟨q,c,rfl⟩:=s.form
 refine Cz.fn (f:=Tryz.f127) (by kernel_rfl) rfl rfl rfl _ rfl ?_
 repeat first|refine go ?_|with_reducible intro _
 refine Wk.loop (fun mm L Z' A'=>∃ m:Nat,m≤l.length∧mm=m∧Z=Z'∧Sub A' []∧(∀ k (h:k+1 < l.length),m≤k+1→gAt es l[k]≤gAt es l[k+1])∧Kp L [(0,.slice q l.length c),(1,fv),(5,.int .i64 ((m:Int) - 1))]) l.length ⟨l.length,Nat.le_refl _,rfl,rfl,Sub.none _,fun k h h2=>by omega,(by repeat (first|exact trivial|refine And.intro rfl ?_|refine And.intro (kpI rfl (by omega)) ?_))⟩ ?_
 rintro m L Z' A' - ⟨_,hm,rfl,rfl,hsub,inv,hk⟩
 refine Wk.drop hsub ?_
 refine Wk.kp hk ?_
 clear hk hsub
 repeat first|refine go ?_|with_reducible intro _
 refine Wk.cond rfl (fun hc=>?_) (fun hc=>?_)
 ·have h2:2≤m:=by simp at hc;omega
  clear hc
  obtain ⟨k,rfl⟩:∃ k,m=k+2:=⟨m - 2,by omega⟩
  have g1:getCells (nums l) ((k+1)*1) 1=some [.int .i64 l[k+1]]:=getCells_map (by omega)
  have g2:getCells (nums l) (k*1) 1=some [.int .i64 l[k]]:=getCells_map (by omega)
  repeat first|refine go ?_|with_reducible intro _
  refine Wk.drawr (ms:=[0,0,0,6,14,0,0,64,224,480,1023,2047]) (l:=[0,1,2,3,4,5,6,7,8,9,10,11]) (by kernel_rfl) (by kernel_rfl) (by kernel_rfl) rfl ?_
  repeat first|refine go ?_|with_reducible intro _
  refine Wk.iaSl (k+1) s rfl rfl rfl rfl rfl rfl (by omega) (by omega) g1 fun b1 o1 hp1=>?_
  repeat first|refine go ?_|with_reducible intro _
  refine Wk.iaSl k s rfl rfl rfl rfl rfl rfl (by omega) (by omega) g2 fun b2 o2 hp2=>?_
  repeat first|refine go ?_|with_reducible intro _
  refine Wk.callD rfl rfl (Spl.none _) (hp l[k+1] l[k]) rfl rfl fun v' Z' A' hz hq=>?_
  obtain ⟨rfl,rfl,rfl⟩:=hq
  refine ⟨?_,?_⟩
  ·(repeat (first|exact PnAll.done|refine PnAll.two ?_|refine PnAll.skip rfl ?_|refine PnAll.keep (Rd.loadL rfl rfl (by first|exact Or.inl (by assumption)|(refine Or.inr ?_;repeat (first|exact List.Mem.head _|refine List.Mem.tail _ ?_))) rfl rfl) (by first|exact veq_slice _ _ _|exact veq_int _ _|exact Sl.veq (by assumption)|simp [veq,veqL,veq1,ba_self]) ?_|refine PnAll.keep (by apply Rd.loadP (o:=0);exact rfl;exact rfl;(first|assumption|(refine Pz.mono ?_ (by assumption);assumption));exact rfl;exact rfl) (by first|exact veq_slice _ _ _|exact veq_int _ _|exact Sl.veq (by assumption)|simp [veq,veqL,veq1,ba_self]) ?_))
  repeat first|refine go ?_|with_reducible intro _
  refine Wk.cond rfl (fun hc=>?_) (fun hc=>?_)
  ·have hn:¬ gAt es l[k]≤gAt es l[k+1]:=by simp at hc;omega
   repeat first|refine go ?_|with_reducible intro _
   refine Wk.ret ⟨_,Rs.tmp rfl Rs.nil,_,Sub.none _,Bis.of (by simp only [Bool.false_eq_true,false_iff];exact fun t=>hn (t k (by omega))),rfl,rfl⟩
  ·have hy:gAt es l[k]≤gAt es l[k+1]:=by simp at hc;omega
   clear hc
   repeat first|refine go ?_|with_reducible intro _
   refine Wk.inv ⟨_,by omega,k+1,by omega,rfl,rfl,(by repeat (first|exact Sub.none _|exact Sub.refl _|refine Sub.keep ?_|refine Sub.drop ?_)),fun i h hi=>?_,(by repeat (first|exact trivial|refine And.intro rfl ?_|refine And.intro (kpI rfl (by omega)) ?_))⟩
   by_cases e:i=k
   ·subst e;exact hy
   ·exact inv i h (by omega)
 ·have h2:m≤1:=by simp at hc;omega
  repeat first|refine go ?_|with_reducible intro _
  refine Wk.ret ⟨_,Rs.tmp rfl Rs.nil,_,Sub.none _,Bis.of (by simp only [true_iff];exact fun k h=>inv k h (by omega)),rfl,rfl⟩
abbrev mpB (ks:List Int):List (Int×Value):=ks.map fun k=>(k,.bool true)
theorem find_B {q:IntKind} {x:Int}:∀ {ks:List Int} {i:Nat},(findI q x (mpB ks) i=none∧x∉ks)∨∃ j,findI q x (mpB ks) i=some (j,.bool true)∧x∈ks
 | [],i=>.inl ⟨rfl,by simp⟩
 | a::ks,i=>by
  by_cases h:x=a
  ·subst h;exact .inr ⟨i,by simp [mpB,findI],by simp⟩
  ·have ef:findI q x (mpB (a::ks)) i=findI q x (mpB ks) (i+1):=by simp [mpB,findI,h]
   rw [ef]
   rcases find_B (q:=q) (x:=x) (ks:=ks) (i:=i+1) with ⟨h1,h2⟩|⟨j,h1,h2⟩
   ·exact .inl ⟨h1,by simp only [List.mem_cons,not_or];exact ⟨h,h2⟩⟩
   ·exact .inr ⟨j,h1,by simp only [List.mem_cons];exact .inr h2⟩
theorem isOnce_ {Z:Zone} {v:Value} {l:List Int} {bm:Nat} {es:List (Int×Nat)} (s:Sl Z 1 v l.length (nums l)) (hs:l.length≤2000000) (hes:es.length≤1000000) (hm:Z bm=some (mpO (mpI es))) :
  Cz M (.func (.func 130) #[] #[]) [v,.map (some bm)] Z [] (fun v' Z' A'=>Bis v' (l.Nodup∧(∀ x∈l,x∈es.map (·.1))∧l.length=es.length)∧Z=Z'∧A'=[]):=by
 obtain ⟨q,c,rfl⟩:=s.form
 refine Cz.fn (f:=Tryz.f130) (by kernel_rfl) rfl rfl rfl _ rfl ?_
 repeat first|refine go ?_|with_reducible intro _
 refine Wk.mkm rfl rfl rfl fun b5=>?_
 repeat first|refine go ?_|with_reducible intro _
 refine Wk.loop (fun mm L Z' A'=>∃ j:Nat,j≤l.length∧mm=l.length - j∧Z=Z'∧A'=[pt b5 (mpO (mpB (l.take j)))]∧((l.take j).Nodup∧∀ x∈l.take j,x∈es.map (·.1))∧Kp L [(1,.map (some bm)),(5,.map (some b5)),(11,.slice q l.length c),(12,.int .i64 l.length),(13,.int .i64 j)]) l.length ⟨0,Nat.zero_le _,rfl,rfl,rfl,⟨by simp,by simp⟩,(by repeat (first|exact trivial|refine And.intro rfl ?_|refine And.intro (kpI rfl (by omega)) ?_))⟩ ?_
 rintro mm L Z' A' - ⟨j,hj,rfl,rfl,rfl,⟨inv1,inv2⟩,hk⟩
 refine Wk.kp hk ?_
 clear hk
 repeat first|refine go ?_|with_reducible intro _
 refine Wk.cond rfl (fun hc=>?_) (fun hc=>?_)
 ·have hlt:j < l.length:=by simp at hc;omega
  clear hc
  have gx:getCells (nums l) (j*1) 1=some [.int .i64 l[j]]:=getCells_map hlt
  have htk:l.take (j+1)=l.take j++[l[j]]:=List.take_succ_eq_append_getElem hlt
  obtain ⟨f1,k1,g1⟩:=gets (es:=es) (x:=l[j]) (j:=⟨.int .i64,1,8,[.int .i64 0],true⟩) rfl
  repeat first|refine go ?_|with_reducible intro _
  refine Wk.lookup rfl rfl rfl rfl (.inl hm) rfl ((keyFind_int rfl l[j] _ 0).trans (by rw [k1])) g1 rfl rfl rfl ?_
  repeat first|refine go ?_|with_reducible intro _
  refine Wk.caser 25 rfl (fun hc=>?_) (fun hc=>?_)
  ·have hn:l[j]∉es.map (·.1):=by simpa using hc
   repeat first|refine go ?_|with_reducible intro _
   refine Wk.ret ⟨_,Rs.tmp rfl Rs.nil,_,Sub.none _,Bis.of (by simp only [Bool.false_eq_true,false_iff];exact fun t=>hn (t.2.1 _ (List.getElem_mem hlt))),rfl,rfl⟩
  have hy:l[j]∈es.map (·.1):=by simpa using hc
  clear hc
  rcases find_B (q:=.i64) (x:=l[j]) (ks:=l.take j) (i:=0) with ⟨h1,h2⟩|⟨i,h1,h2⟩
  ·repeat first|refine go ?_|with_reducible intro _
   refine Wk.lookup rfl rfl rfl rfl (.inr (List.Mem.head _)) rfl ((keyFind_int rfl l[j] _ 0).trans (by rw [h1])) rfl rfl rfl rfl ?_
   repeat first|refine go ?_|with_reducible intro _
   refine Wk.mapUp rfl rfl rfl rfl rfl ((keyFind_int rfl l[j] _ 0).trans (by rw [h1])) Upd.head rfl rfl ?_
   repeat first|refine go ?_|with_reducible intro _
   refine Wk.inv ⟨_,by omega,j+1,hlt,rfl,rfl,by rw [htk];simp only [mpO,mpB,List.map_append,List.map_cons,List.map_nil],⟨?_,?_⟩,(by repeat (first|exact trivial|refine And.intro rfl ?_|refine And.intro (kpI rfl (by omega)) ?_))⟩
   ·rw [htk]
    exact List.nodup_append.2 ⟨inv1,by simp,fun a ha b hb e=>by rw [List.mem_singleton.1 hb] at e;rw [e] at ha;exact h2 ha⟩
   ·rw [htk]
    intro x hx
    rcases List.mem_append.1 hx with k|k
    ·exact inv2 x k
    ·rw [List.mem_singleton.1 k];exact hy
  ·repeat first|refine go ?_|with_reducible intro _
   refine Wk.lookup rfl rfl rfl rfl (.inr (List.Mem.head _)) rfl ((keyFind_int rfl l[j] _ 0).trans (by rw [h1])) rfl rfl rfl rfl ?_
   repeat first|refine go ?_|with_reducible intro _
   refine Wk.ret ⟨_,Rs.tmp rfl Rs.nil,_,Sub.none _,Bis.of ?_,rfl,rfl⟩
   simp only [Bool.false_eq_true,false_iff]
   intro t
   obtain ⟨y,hy2,ey⟩:=List.getElem_of_mem h2
   rw [List.length_take] at hy2
   rw [List.getElem_take] at ey
   exact (List.pairwise_iff_getElem.1 t.1) y j (by omega) hlt (by omega) ey
 ·have hjn:j=l.length:=by simp at hc;omega
  subst hjn
  rw [List.take_length] at inv1 inv2 ⊢
  clear hc
  repeat first|refine go ?_|with_reducible intro _
  refine Wk.lenMap rfl rfl rfl rfl (.inr (List.Mem.head _)) rfl rfl ?_
  repeat first|refine go ?_|with_reducible intro _
  refine Wk.lenMap rfl rfl rfl rfl (.inl hm) rfl rfl ?_
  repeat first|refine go ?_|with_reducible intro _
  refine Wk.ret ⟨_,Rs.tmp rfl Rs.nil,_,Sub.none _,Bis.of ?_,rfl,rfl⟩
  have e2:(mpB l).length=l.length∧(mpI es).length=es.length:=⟨by simp [mpB],by simp [mpI]⟩
  simp only [List.length_map,inv1,true_and,beq_iff_eq]
  exact ⟨fun h=>⟨inv2,by omega⟩,fun h=>by omega⟩
end Go.Proofs.J
namespace Go.Proofs.J
open Go.Ev Go
theorem told_ {Z:Zone} {cs ct:List Value} {d:Dq} {e:De} (h:DqR Z cs d) (k:DeR Z ct e) (ho:d.owner.length≤1000) (ht:d.thieves.length≤1000) (sm:e.Sm) :
  Cz M (.func (.func 124) #[] #[]) [.agg ⟨cs⟩,.agg ⟨ct⟩] Z [] (fun v' Z' A'=>Bis v' (TR d e)∧Z=Z'∧A'=[]):=by
 obtain ⟨p1,p2,p3,p4,rfl,so,st⟩:=h.form
 obtain ⟨a1,cw1,a2,c2,a3,c3,us,rfl,s1,s2,s3,s4⟩:=k.form
 have w1:=sm.ow
 have w2:=sm.th
 refine Cz.fn (f:=Tryz.f124) (by kernel_rfl) rfl rfl rfl _ rfl ?_
 repeat first|refine go ?_|with_reducible intro _
 rename_i b2 b3
 refine Wk.caser 17 rfl (fun hc=>?_) (fun hc=>?_)
 ·have hne:¬ e.ow.length=d.owner.length:=fun q=>by simp [q] at hc
  repeat first|refine go ?_|with_reducible intro _
  refine Wk.ret ⟨_,Rs.tmp rfl Rs.nil,_,Sub.none _,Bis.of (by simp only [Bool.false_eq_true,false_iff];exact fun t=>hne t.l1),rfl,rfl⟩
 have l1:e.ow.length=d.owner.length:=by simp at hc;omega
 clear hc
 repeat first|refine go ?_|with_reducible intro _
 refine Wk.cond rfl (fun hc=>?_) (fun hc=>?_)
 ·have hne:¬ e.th.length=d.thieves.length:=fun q=>by simp [q] at hc
  repeat first|refine go ?_|with_reducible intro _
  refine Wk.ret ⟨_,Rs.tmp rfl Rs.nil,_,Sub.none _,Bis.of (by simp only [Bool.false_eq_true,false_iff];exact fun t=>hne t.l2),rfl,rfl⟩
 have l2:e.th.length=d.thieves.length:=by simp at hc;omega
 clear hc
 repeat first|refine go ?_|with_reducible intro _
 refine Wk.loop (fun mm L Z' A'=>∃ (j:Nat),j≤d.owner.length∧mm=d.owner.length - j∧Z=Z'∧Sub A' [pt b3 (.cells [.slice a1 e.ow.length cw1,.slice a2 e.th.length c2,.slice a3 e.lf.length c3] true 0),pt b2 (.cells [.int .i64 d.size,.int .i64 d.room,.bool d.fence,.slice p1 d.owner.length p2,.slice p3 d.thieves.length p4] true 0)]∧(∀ i,i < j→AnOk d e i)∧Kp L [(2,.pointer (some ⟨b2,0,none⟩)),(3,.pointer (some ⟨b3,0,none⟩)),(27,.slice p1 d.owner.length p2),(28,.int .i64 d.owner.length),(29,.int .i64 j)]) d.owner.length ⟨0,Nat.zero_le _,rfl,rfl,Sub.refl _,fun i hi=>by omega,(by repeat (first|exact trivial|refine And.intro rfl ?_|refine And.intro (kpI rfl (by omega)) ?_))⟩ ?_
 rintro mm L Z' A' - ⟨j,hj,rfl,rfl,hsub,inv,hk⟩
 refine Wk.drop hsub ?_
 refine Wk.kp hk ?_
 clear hk hsub
 repeat first|refine go ?_|with_reducible intro _
 refine Wk.cond rfl (fun hc=>?_) (fun hc=>?_)
 ·have hlo:j < d.owner.length:=by simp at hc;omega
  have hlt:j < e.ow.length:=by omega
  clear hc
  have gw:getCells (nums e.ow) (j*1) 1=some [.int .i64 e.ow[j]]:=getCells_map hlt
  have ga:=actL_get hlo
  repeat first|refine go ?_|with_reducible intro _
  refine Wk.drawr (ms:=[0,0,2,0,14,30,63,127]) (l:=[0,1,2,3,4,5,6,7]) (by kernel_rfl) (by kernel_rfl) (by kernel_rfl) rfl ?_
  repeat first|refine go ?_|with_reducible intro _
  refine Wk.callD rfl rfl (Spl.none _) (isAnswer_ (a:=d.owner[j])) rfl rfl fun v' Z' A' hz hq=>?_
  obtain ⟨⟨b,rfl,hb⟩,rfl,rfl⟩:=hq
  refine ⟨?_,?_⟩
  ·(repeat (first|exact PnAll.done|refine PnAll.two ?_|refine PnAll.skip rfl ?_|refine PnAll.keep (Rd.loadL rfl rfl (by first|exact Or.inl (by assumption)|(refine Or.inr ?_;repeat (first|exact List.Mem.head _|refine List.Mem.tail _ ?_))) rfl rfl) (by first|exact veq_slice _ _ _|exact veq_int _ _|exact Sl.veq (by assumption)|simp [veq,veqL,veq1,ba_self]) ?_|refine PnAll.keep (by apply Rd.loadP (o:=0);exact rfl;exact rfl;(first|assumption|(refine Pz.mono ?_ (by assumption);assumption));exact rfl;exact rfl) (by first|exact veq_slice _ _ _|exact veq_int _ _|exact Sl.veq (by assumption)|simp [veq,veqL,veq1,ba_self]) ?_))
  repeat first|refine go ?_|with_reducible intro _
  refine Wk.cond rfl (fun hc=>?_) (fun hc=>?_)
  ·have hn:¬ Ans d.owner[j] e.ow[j]:=fun q=>by rw [hb.2 q] at hc;cases hc
   repeat first|refine go ?_|with_reducible intro _
   refine Wk.ret ⟨_,Rs.tmp rfl Rs.nil,_,Sub.none _,Bis.of (by simp only [Bool.false_eq_true,false_iff];exact fun t=>hn (t.an j hlo hlt)),rfl,rfl⟩
  ·have hy:Ans d.owner[j] e.ow[j]:=hb.1 (by simpa using hc)
   clear hc
   repeat first|refine go ?_|with_reducible intro _
   refine Wk.inv ⟨_,by omega,j+1,hlo,rfl,rfl,(by repeat (first|exact Sub.none _|exact Sub.refl _|refine Sub.keep ?_|refine Sub.drop ?_)),upTo inv fun _ _=>hy,(by repeat (first|exact trivial|refine And.intro rfl ?_|refine And.intro (kpI rfl (by omega)) ?_))⟩
 have hjn:j=d.owner.length:=by simp at hc;omega
 subst hjn
 clear hc
 repeat first|refine go ?_|with_reducible intro _
 refine Wk.loop (fun mm L Z' A'=>∃ (j:Nat),j≤e.th.length∧mm=e.th.length - j∧Z=Z'∧Sub A' [pt b3 (.cells [.slice a1 e.ow.length cw1,.slice a2 e.th.length c2,.slice a3 e.lf.length c3] true 0),pt b2 (.cells [.int .i64 d.size,.int .i64 d.room,.bool d.fence,.slice p1 d.owner.length p2,.slice p3 d.thieves.length p4] true 0)]∧(∀ i,i < j→RwOk d e i)∧Kp L [(2,.pointer (some ⟨b2,0,none⟩)),(3,.pointer (some ⟨b3,0,none⟩)),(7,.func (.func 166) #[] #[]),(44,.slice a2 e.th.length c2),(45,.int .i64 e.th.length),(46,.int .i64 j)]) e.th.length ⟨0,Nat.zero_le _,rfl,rfl,Sub.refl _,fun i hi=>by omega,(by repeat (first|exact trivial|refine And.intro rfl ?_|refine And.intro (kpI rfl (by omega)) ?_))⟩ ?_
 rintro mm L Z' A' - ⟨j,hj,rfl,rfl,hsub,inv2,hk⟩
 refine Wk.drop hsub ?_
 refine Wk.kp hk ?_
 clear hk hsub
 repeat first|refine go ?_|with_reducible intro _
 refine Wk.cond rfl (fun hc=>?_) (fun hc=>?_)
 ·have hlt:j < e.th.length:=by simp at hc;omega
  have hlo:j < d.thieves.length:=by omega
  clear hc
  have gt:getCells (nums d.thieves) (j*1) 1=some [.int .i64 d.thieves[j]]:=getCells_map hlo
  obtain ⟨au,cu,gu,su⟩:=row_get s3 hlt
  have hno:¬ RwOk d e j→¬ TR d e:=fun q t=>q fun h k=>t.st j h k
  have wj:=w2.2 _ (List.getElem_mem hlt)
  repeat first|refine go ?_|with_reducible intro _
  refine Wk.caser 59 rfl (fun hc=>?_) (fun hc=>?_)
  ·have c1:¬ (e.th[j].length:Int)=d.thieves[j]:=by simpa using hc
   repeat first|refine go ?_|with_reducible intro _
   refine Wk.ret ⟨_,Rs.tmp rfl Rs.nil,_,Sub.none _,Bis.of (by simp only [Bool.false_eq_true,false_iff];exact hno fun q=>c1 (q hlo hlt).1),rfl,rfl⟩
  have c1:(e.th[j].length:Int)=d.thieves[j]:=by simpa using hc
  clear hc
  repeat first|refine go ?_|with_reducible intro _
  refine Wk.call rfl rfl (Spl.none _) (anySl (fun x=>¬ (Item x∨x=0∨x=-1)) su wj fun x hx=>odd1) rfl rfl rfl ?_
  rintro v' Z' A' hz ⟨⟨b,rfl,hb⟩,rfl,rfl⟩
  repeat first|refine go ?_|with_reducible intro _
  refine Wk.cond rfl (fun hc=>?_) (fun hc=>?_)
  ·obtain ⟨x,hx,hn⟩:=hb.1 hc
   repeat first|refine go ?_|with_reducible intro _
   refine Wk.ret ⟨_,Rs.tmp rfl Rs.nil,_,Sub.none _,Bis.of (by simp only [Bool.false_eq_true,false_iff];exact hno fun q=>hn ((q hlo hlt).2 x hx)),rfl,rfl⟩
  ·have hy:∀ x∈e.th[j],Item x∨x=0∨x=-1:=fun x hx=>Classical.byContradiction fun q=>by rw [hb.2 ⟨x,hx,q⟩] at hc;cases hc
   clear hc hb
   repeat first|refine go ?_|with_reducible intro _
   refine Wk.inv ⟨_,by omega,j+1,hlt,rfl,rfl,(by repeat (first|exact Sub.none _|exact Sub.refl _|refine Sub.keep ?_|refine Sub.drop ?_)),upTo inv2 fun _ _=>⟨c1,hy⟩,(by repeat (first|exact trivial|refine And.intro rfl ?_|refine And.intro (kpI rfl (by omega)) ?_))⟩
 have hjn:j=e.th.length:=by simp at hc;omega
 subst hjn
 rw [l2] at inv2
 clear hc
 repeat first|refine go ?_|with_reducible intro _
 refine Wk.ret ⟨_,Rs.tmp rfl Rs.nil,_,Sub.none _,Bis.of (by simp only [true_iff];exact TR.of l1 l2 inv inv2),rfl,rfl⟩
theorem findI_none' {q:IntKind} {x:Int} {es:List (Int×Nat)} {i:Nat} (h:x∉es.map (·.1)):findI q x (mpI es) i=none:=by
 rcases find_gAt (q:=q) (x:=x) (es:=es) (i:=i) with ⟨h1,_⟩|⟨j,_,h2⟩
 ·exact h1
 ·exact absurd h2 h
theorem us_ok {Z:Zone} {us:List Value} {th:List (List Int)} (h:All2 (fun u l=>Sl Z 1 u l.length (nums l)) us th):okCells us=true:=by
 induction h with
 | nil=>rfl
 | cons h _ ih =>
  obtain ⟨a,c,rfl⟩:=h.form
  simp only [okCells,List.all_cons,Bool.and_eq_true] at ih ⊢
  exact ⟨rfl,ih⟩
theorem pushed_new {d:Dq} {e:De} (ok:d.Ok) {j:Nat} {n:Int} (h:j < d.owner.length) (hA:d.owner[j]=⟨true,n⟩):n∉(plcs d e j).map (·.1):=fun hm=>by
 have h1:=(plcs_sub (d:=d) (e:=e) j (by omega)).subset hm
 have h2:=pushedOf_take (l:=d.owner) (j:=j) h
 rw [hA] at h2
 simp only [if_true] at h2
 have h3:(pushedOf (d.owner.take (j+1))).Nodup:=by
  have e1:=pushedOf_append (d.owner.take (j+1)) (d.owner.drop (j+1))
  rw [List.take_append_drop] at e1
  have:=ok.onc
  unfold Dq.Onc at this
  rw [e1] at this
  exact (List.nodup_append.1 this).1
 rw [h2] at h3
 exact (List.nodup_append.1 h3).2.2 n h1 n (by simp) rfl
theorem sound_ {Z:Zone} {cs ct:List Value} {d:Dq} {e:De} (h:DqR Z cs d) (k:DeR Z ct e) (ok:d.Ok) (hlf:e.lf.length≤1000) (htl:∀ l∈e.th,l.length≤1000) (hth:e.th.length≤1000) (how:e.ow.length≤1000) :
  Cz M (.func (.func 70) #[] #[]) [.agg ⟨cs⟩,.agg ⟨ct⟩] Z [] (fun v' Z' A'=>Bis v' (SoundP d e)∧A'=[]):=by
 have hD:=h
 have hE:=k
 have l1:=ok.lim.1
 have l2:=ok.lim.2.1
 have siff:=sound_iff (d:=d) (e:=e) ok
 obtain ⟨p1,p2,p3,p4,rfl,so,st⟩:=h.form
 obtain ⟨a1,cw1,a2,c2,a3,c3,us,rfl,s1,s2,s3,s4⟩:=k.form
 clear h k
 refine Cz.fn (f:=Tryz.f70) (by kernel_rfl) rfl rfl rfl _ rfl ?_
 repeat first|refine go ?_|with_reducible intro _
 rename_i b2 b3
 refine Wk.call rfl rfl (Spl.none _) (told_ hD hE (by omega) (by omega) ⟨by omega,⟨by omega,fun l hl=>by have:=htl l hl;omega⟩,by omega⟩) rfl rfl rfl ?_
 rintro v' Z' A' hz ⟨⟨b,rfl,hb⟩,rfl,rfl⟩
 repeat first|refine go ?_|with_reducible intro _
 refine Wk.cond rfl (fun hc=>?_) (fun hc=>?_)
 ·have hn:¬ TR d e:=fun q=>by rw [hb.2 q] at hc;cases hc
  repeat first|refine go ?_|with_reducible intro _
  refine Wk.ret ⟨_,Rs.tmp rfl Rs.nil,_,Sub.none _,Bis.of (by simp only [Bool.false_eq_true,false_iff];exact fun t=>hn t.tr),rfl⟩
 have tr:TR d e:=hb.1 (by simpa using hc)
 clear hc hb
 have t1:=tr.l1
 repeat first|refine go ?_|with_reducible intro _
 refine Wk.mkm rfl rfl rfl fun bm=>?_
 repeat first|refine go ?_|with_reducible intro _
 rename_i b5
 refine Wk.olNil 1 ?_
 refine Wk.loop (fun mm L Z' A'=>∃ (j:Nat) (vk:Value),j≤d.owner.length∧mm=d.owner.length - j∧Z=Z'∧Sub A' [ol 1 vk (pops d e j).length (nums (pops d e j)),pt b5 (.cells [.map (some bm)] true 0),pt bm (mpO (mpI (plcs d e j))),pt b3 (.cells [.slice a1 e.ow.length cw1,.slice a2 e.th.length c2,.slice a3 e.lf.length c3] true 0),pt b2 (.cells [.int .i64 d.size,.int .i64 d.room,.bool d.fence,.slice p1 d.owner.length p2,.slice p3 d.thieves.length p4] true 0)]∧Kp L [(2,.pointer (some ⟨b2,0,none⟩)),(3,.pointer (some ⟨b3,0,none⟩)),(5,.pointer (some ⟨b5,0,none⟩)),(6,vk),(19,.slice p1 d.owner.length p2),(20,.int .i64 d.owner.length),(21,.int .i64 j)]) d.owner.length ⟨0,_,Nat.zero_le _,rfl,rfl,Sub.refl _,(by repeat (first|exact trivial|refine And.intro rfl ?_|refine And.intro (kpI rfl (by omega)) ?_))⟩ ?_
 rintro mm L Z' A' - ⟨j,vk,hj,rfl,rfl,hsub,hk⟩
 refine Wk.drop hsub ?_
 refine Wk.kp hk ?_
 clear hk hsub
 have hpl:=pops_len (d:=d) (e:=e) j
 repeat first|refine go ?_|with_reducible intro _
 refine Wk.cond rfl (fun hc=>?_) (fun hc=>?_)
 ·have hlo:j < d.owner.length:=by simp at hc;omega
  have hlt:j < e.ow.length:=by omega
  clear hc
  have gw:getCells (nums e.ow) (j*1) 1=some [.int .i64 e.ow[j]]:=getCells_map hlt
  have ga:=actL_get hlo
  have hac:d.ac j=d.owner[j]:=by unfold Dq.ac;simp [hlo]
  have hst:pops d e (j+1)=pops d e j++(if d.owner[j].push=false∧Item e.ow[j] then [e.ow[j]] else []):=by rw [pops,ow_at hlt,hac]
  have hpt:plcs d e (j+1)=plcs d e j++(if d.owner[j].push=true∧e.ow[j]=d.owner[j].n then [(d.owner[j].n,j)] else []):=by rw [plcs,ow_at hlt,hac]
  obtain ⟨p,n,hA⟩:∃ p n,d.owner[j]=⟨p,n⟩:=⟨_,_,rfl⟩
  have hnew:p=true→n∉(plcs d e j).map (·.1):=fun q=>pushed_new ok hlo (by rw [hA,q])
  rw [hA] at ga hst hpt
  simp only at hst hpt
  generalize hx:e.ow[j]=x at gw hst hpt
  cases p with
  | true =>
   rw [if_neg (by simp),List.append_nil] at hst
   repeat first|refine go ?_|with_reducible intro _
   refine Wk.drawr (ms:=[0,1,3,7,15,7,63,127,7,263,1023,2047,4095]) (l:=[0,1,2,3,4,5,6,7,8,9,10,11,12]) (by kernel_rfl) (by kernel_rfl) (by kernel_rfl) rfl ?_
   repeat first|refine go ?_|with_reducible intro _
   refine Wk.cond rfl (fun hc=>?_) (fun hc=>?_)
   ·have c1:x=n:=by simpa using hc
    rw [if_pos ⟨rfl,c1⟩] at hpt
    clear hc
    have kf:keyFind M.T 3 (.int .i64 n) ((mpI (plcs d e j)).map fun p=>(.int .i64 p.1,p.2)) 0=some none:=(keyFind_int rfl n _ 0).trans (by rw [findI_none' (hnew rfl)])
    repeat first|refine go ?_|with_reducible intro _
    refine Wk.mapUp rfl rfl rfl rfl rfl kf (.tail (.tail (.tail .head))) rfl rfl ?_
    repeat first|refine go ?_|with_reducible intro _
    refine Wk.inv ⟨_,by omega,j+1,vk,hlo,rfl,rfl,by rw [hst,hpt];simp only [mpO,mpI,List.map_append,List.map_cons,List.map_nil];exact .drop (Sub.refl _),(by repeat (first|exact trivial|refine And.intro rfl ?_|refine And.intro (kpI rfl (by omega)) ?_))⟩
   ·have c1:¬ x=n:=by simpa using hc
    rw [if_neg (fun q=>c1 q.2),List.append_nil] at hpt
    clear hc
    repeat first|refine go ?_|with_reducible intro _
    refine Wk.inv ⟨_,by omega,j+1,vk,hlo,rfl,rfl,by rw [hst,hpt];exact .drop (Sub.refl _),(by repeat (first|exact trivial|refine And.intro rfl ?_|refine And.intro (kpI rfl (by omega)) ?_))⟩
  | false =>
   rw [if_neg (by simp),List.append_nil] at hpt
   repeat first|refine go ?_|with_reducible intro _
   refine Wk.drawr (ms:=[0,1,3,7,15,7,63,127,7,263,1023,2047,4095]) (l:=[0,1,2,3,4,5,6,7,8,9,10,11,12]) (by kernel_rfl) (by kernel_rfl) (by kernel_rfl) rfl ?_
   repeat first|refine go ?_|with_reducible intro _
   refine Wk.call rfl rfl (Spl.none _) (isItem_) rfl rfl rfl ?_
   rintro v' Z' A' hz ⟨⟨b,rfl,hb⟩,rfl,rfl⟩
   repeat first|refine go ?_|with_reducible intro _
   refine Wk.cond rfl (fun hc=>?_) (fun hc=>?_)
   ·have c2:Item x:=hb.1 hc
    rw [if_pos ⟨rfl,c2⟩] at hst
    clear hc
    repeat first|refine go ?_|with_reducible intro _
    refine Wk.bs (cs:=[.int .i64 x]) rfl rfl rfl rfl rfl rfl rfl fun b14=>?_
    refine Wk.append (kk:=1) (new:=[.int .i64 x]) rfl rfl rfl rfl rfl rfl rfl rfl (.tail (.tail .head)) (Src.lit (by first|exact Or.inl (by assumption)|(refine Or.inr ?_;repeat (first|exact List.Mem.head _|refine List.Mem.tail _ ?_))) rfl) rfl rfl rfl (by omega) (by omega) rfl rfl rfl fun v15=>?_
    repeat first|refine go ?_|with_reducible intro _
    refine Wk.inv ⟨_,by omega,j+1,v15,hlo,rfl,rfl,by rw [hst,hpt,List.length_append,nums_append];exact .keep (.drop (.drop (Sub.refl _))),(by repeat (first|exact trivial|refine And.intro rfl ?_|refine And.intro (kpI rfl (by omega)) ?_))⟩
   ·have c1:¬ Item x:=fun q=>by rw [hb.2 q] at hc;cases hc
    rw [if_neg (fun q=>c1 q.2),List.append_nil] at hst
    clear hc
    repeat first|refine go ?_|with_reducible intro _
    refine Wk.inv ⟨_,by omega,j+1,vk,hlo,rfl,rfl,by rw [hst,hpt];exact .drop (Sub.refl _),(by repeat (first|exact trivial|refine And.intro rfl ?_|refine And.intro (kpI rfl (by omega)) ?_))⟩
 have hjn:j=d.owner.length:=by simp at hc;omega
 subst hjn
 clear hc hj
 have hpb:∀ p∈plcs d e d.owner.length,p.2≤1000:=fun p hp=>by have:=plcs_lt d.owner.length p hp;omega
 have hPl:(plcs d e d.owner.length).length≤8:=by
  have:=(plcs_sub (d:=d) (e:=e) d.owner.length (Nat.le_refl _)).length_le
  have:=pushedOf_len (d.owner.take d.owner.length)
  rw [List.length_take] at this
  simp only [List.length_map] at *
  omega
 have hPq:(Pq d e).length=(plcs d e d.owner.length).length:=by unfold Pq;simp
 apply Wk.freeze (b:=b5)
 case p=>repeat (first|exact Rem.head|apply Rem.tail)
 intro Z1 x1 h5
 apply Wk.freeze (b:=bm)
 case p=>repeat (first|exact Rem.head|apply Rem.tail)
 intro Z2 x2 hm
 replace h5:=x2 _ _ h5
 replace s1:=(s1.mono x1).mono x2
 replace s2:=(s2.mono x1).mono x2
 replace s3:=(s3.mono fun u l h=>h.mono x1).mono fun u l h=>h.mono x2
 replace s4:=(s4.mono x1).mono x2
 repeat first|refine go ?_|with_reducible intro _
 refine Wk.drawr (ms:=[0,1,3,0,8,24,63,127,0]) (l:=[0,1,3,4,5,8,2,6,7]) (by kernel_rfl) (by kernel_rfl) (by kernel_rfl) rfl ?_
 repeat first|refine go ?_|with_reducible intro _
 refine Wk.bs (cs:=[.slice a3 e.lf.length c3]) rfl rfl rfl rfl rfl rfl rfl fun b69=>?_
 repeat first|refine go ?_|with_reducible intro _
 refine Wk.callD rfl rfl (Spl.none _) (cloneLo s2 (by omega) (us_ok s3)) rfl rfl fun v66 Z' A' hz hq=>?_
 obtain ⟨rfl,rfl⟩:=hq
 refine ⟨?_,?_⟩
 ·(repeat (first|exact PnAll.done|refine PnAll.two ?_|refine PnAll.skip rfl ?_|refine PnAll.keep (Rd.loadL rfl rfl (by first|exact Or.inl (by assumption)|(refine Or.inr ?_;repeat (first|exact List.Mem.head _|refine List.Mem.tail _ ?_))) rfl rfl) (by first|exact veq_slice _ _ _|exact veq_int _ _|exact Sl.veq (by assumption)|simp [veq,veqL,veq1,ba_self]) ?_|refine PnAll.keep (by apply Rd.loadP (o:=0);exact rfl;exact rfl;(first|assumption|(refine Pz.mono ?_ (by assumption);assumption));exact rfl;exact rfl) (by first|exact veq_slice _ _ _|exact veq_int _ _|exact Sl.veq (by assumption)|simp [veq,veqL,veq1,ba_self]) ?_))
 refine Wk.appendD (kk:=1) (new:=[.slice a3 e.lf.length c3]) rfl rfl rfl rfl rfl rfl rfl rfl .head (Src.lit (by first|exact Or.inl (by assumption)|(refine Or.inr ?_;repeat (first|exact List.Mem.head _|refine List.Mem.tail _ ?_))) rfl) rfl rfl rfl (by omega) (by omega) rfl rfl fun v70=>⟨?_,?_⟩
 ·(repeat (first|exact PnAll.done|refine PnAll.two ?_|refine PnAll.skip rfl ?_|refine PnAll.keep (Rd.loadL rfl rfl (by first|exact Or.inl (by assumption)|(refine Or.inr ?_;repeat (first|exact List.Mem.head _|refine List.Mem.tail _ ?_))) rfl rfl) (by first|exact veq_slice _ _ _|exact veq_int _ _|exact Sl.veq (by assumption)|simp [veq,veqL,veq1,ba_self]) ?_|refine PnAll.keep (by apply Rd.loadP (o:=0);exact rfl;exact rfl;(first|assumption|(refine Pz.mono ?_ (by assumption);assumption));exact rfl;exact rfl) (by first|exact veq_slice _ _ _|exact veq_int _ _|exact Sl.veq (by assumption)|simp [veq,veqL,veq1,ba_self]) ?_))
 refine Wk.dropr (B:=[ol 1 v70 (e.th.length+1) (us++[.slice a3 e.lf.length c3]),ol 1 vk (pops d e d.owner.length).length (nums (pops d e d.owner.length)),pt b3 (.cells [.slice a1 e.ow.length cw1,.slice a2 e.th.length c2,.slice a3 e.lf.length c3] true 0)]) (.keep (.drop (.keep (.keep (.drop (Sub.refl _)))))) ?_
 first|apply Wk.olFreezer (v:=v70)|apply Wk.olFreeze (v:=v70)
 case p=>repeat (first|exact Rem.head|apply Rem.tail)
 intro Z3 x3 h70
 replace h5:=x3 _ _ h5
 replace hm:=x3 _ _ hm
 replace s3:=s3.mono fun u l h=>h.mono x3
 replace s4:=s4.mono x3
 have h70':Sl Z3 1 v70 (e.th++[e.lf]).length (us++[.slice a3 e.lf.length c3]):=by simpa using h70
 have r70:All2 (fun u l=>Sl Z3 1 u l.length (nums l)) (us++[.slice a3 e.lf.length c3]) (e.th++[e.lf]):=s3.snoc s4
 have hlsm:∀ l∈e.th++[e.lf],l.length≤1000:=fun l hl=>by
  rcases List.mem_append.1 hl with q|q
  ·exact htl l q
  ·rw [List.mem_singleton.1 q];exact hlf
 have hall:allQ d e=pops d e d.owner.length++(e.th++[e.lf]).flatMap its:=rfl
 have hlen:(e.th++[e.lf]).length≤1001:=by simp;omega
 generalize e.th++[e.lf]=ls at h70' r70 hlsm siff hall hlen
 clear h70 s2 s3
 obtain ⟨a70,c70,rfl⟩:=h70'.form
 repeat first|refine go ?_|with_reducible intro _
 have hpp:=pops_len (d:=d) (e:=e) d.owner.length
 refine Wk.loop (fun mm L Z' A'=>∃ (k:Nat) (vk:Value),k≤ls.length∧mm=ls.length - k∧Ext Z3 Z'∧A'=[ol 1 vk (pops d e d.owner.length++(ls.take k).flatMap its).length (nums (pops d e d.owner.length++(ls.take k).flatMap its)),pt b3 (.cells [.slice a1 e.ow.length cw1,.slice a2 e.th.length c2,.slice a3 e.lf.length c3] true 0)]∧(∀ i,i < k→∀ hi:i < ls.length,(its ls[i]).length≤(Pq d e).length∧SrtG (plcs d e d.owner.length) (its ls[i]))∧Kp L [(3,.pointer (some ⟨b3,0,none⟩)),(5,.pointer (some ⟨b5,0,none⟩)),(6,vk),(70,.slice a70 ls.length c70),(71,.int .i64 ls.length),(72,.int .i64 k)]) ls.length ⟨0,vk,Nat.zero_le _,rfl,Ext.refl _,by simp,fun i hi=>by omega,(by repeat (first|exact trivial|refine And.intro rfl ?_|refine And.intro (kpI rfl (by omega)) ?_))⟩ ?_
 clear vk
 rintro mm L Z4 A' - ⟨k,vk,hk0,rfl,x4,rfl,inv,hk⟩
 refine Wk.kp hk ?_
 clear hk
 have h5':=x4 _ _ h5
 have hm':=x4 _ _ hm
 have h70x:=h70'.mono x4
 have s4x:=s4.mono x4
 have hfl:((ls.take k).flatMap its).length≤1001*1000:=by
  have h1:=flat_its_len (l:=ls.take k) (b:=1000) fun x hx=>hlsm x (List.mem_of_mem_take hx)
  have h2:(ls.take k).length≤1001:=by rw [List.length_take];omega
  have h3:(ls.take k).length*1000≤1001*1000:=Nat.mul_le_mul_right _ h2
  omega
 repeat first|refine go ?_|with_reducible intro _
 refine Wk.cond rfl (fun hc=>?_) (fun hc=>?_)
 ·have hlt:k < ls.length:=by simp at hc;omega
  clear hc
  obtain ⟨au,cu,gu,su⟩:=row_get r70 hlt
  replace su:=su.mono x4
  have wk:=hlsm _ (List.getElem_mem hlt)
  have wi:(its ls[k]).length≤1000:=by
   have h3:(its ls[k]).length≤ls[k].length:=List.length_filter_le ..
   omega
  repeat first|refine go ?_|with_reducible intro _
  refine Wk.call rfl rfl (Spl.none _) (items_ su (by omega)) rfl rfl rfl ?_
  rintro v77 Z' A' hz ⟨rfl,rfl⟩
  refine Wk.dropr (B:=[ol 1 v77 _ _,ol 1 vk _ _,pt b3 _]) (Sub.refl _) ?_
  first|apply Wk.olFreezer (v:=v77)|apply Wk.olFreeze (v:=v77)
  case p=>repeat (first|exact Rem.head|apply Rem.tail)
  intro Z5 x5 h77
  obtain ⟨a77,c77,rfl⟩:=h77.form
  have h5z:=x5 _ _ h5'
  have hmz:=x5 _ _ hm'
  repeat first|refine go ?_|with_reducible intro _
  refine Wk.lenMap rfl rfl rfl rfl (.inl hmz) rfl rfl ?_
  repeat first|refine go ?_|with_reducible intro _
  have em:((mpI (plcs d e d.owner.length)).map fun p=>(Value.int .i64 p.1,p.2)).length=(Pq d e).length:=by rw [hPq];simp [mpI]
  rw [em]
  refine Wk.caser 83 rfl (fun hc=>?_) (fun hc=>?_)
  ·have c1:¬ (its ls[k]).length≤(Pq d e).length:=by simp at hc;omega
   repeat first|refine go ?_|with_reducible intro _
   refine Wk.ret ⟨_,Rs.tmp rfl Rs.nil,_,Sub.none _,Bis.of (by simp only [Bool.false_eq_true,false_iff];exact fun t=>c1 ((siff.1 t).2.1 _ (List.getElem_mem hlt)).1),rfl⟩
  have c1:(its ls[k]).length≤(Pq d e).length:=by simp at hc;omega
  clear hc
  repeat first|refine go ?_|with_reducible intro _
  refine Wk.call rfl rfl (Spl.none _) (sortedPl h77 (by omega) fun x y=>cmpPl h5z hmz hpb) rfl rfl rfl ?_
  rintro v' Z' A' hz ⟨⟨b,rfl,hb⟩,rfl,rfl⟩
  repeat first|refine go ?_|with_reducible intro _
  refine Wk.cond rfl (fun hc=>?_) (fun hc=>?_)
  ·have hn:¬ SrtG (plcs d e d.owner.length) (its ls[k]):=fun q=>by rw [hb.2 q] at hc;cases hc
   repeat first|refine go ?_|with_reducible intro _
   refine Wk.ret ⟨_,Rs.tmp rfl Rs.nil,_,Sub.none _,Bis.of (by simp only [Bool.false_eq_true,false_iff];exact fun t=>hn ((siff.1 t).2.1 _ (List.getElem_mem hlt)).2),rfl⟩
  ·have hy:SrtG (plcs d e d.owner.length) (its ls[k]):=hb.1 (by simpa using hc)
   clear hc hb
   repeat first|refine go ?_|with_reducible intro _
   refine Wk.append rfl rfl rfl rfl rfl rfl rfl rfl (by repeat (first|exact Rem.head|apply Rem.tail)) (Src.sl h77) rfl (ok_nums _) (by simp) (by simp only [List.length_append];omega) (by simp only [List.length_append];omega) rfl rfl rfl fun v91=>?_
   repeat first|refine go ?_|with_reducible intro _
   refine Wk.inv ⟨_,by omega,k+1,v91,hlt,rfl,x4.trans x5,?_,upTo inv fun _=>⟨c1,hy⟩,(by repeat (first|exact trivial|refine And.intro rfl ?_|refine And.intro (kpI rfl (by omega)) ?_))⟩
   rw [List.take_succ_eq_append_getElem hlt,List.flatMap_append]
   simp [Nat.add_assoc]
 have hkn:k=ls.length:=by simp at hc;omega
 subst hkn
 rw [List.take_length] at hfl ⊢
 rw [←hall]
 clear hc hk0
 have hal:(allQ d e).length≤1002000:=by rw [hall];simp only [List.length_append];omega
 have hin:∀ l∈ls,(its l).length≤(Pq d e).length∧SrtG (plcs d e d.owner.length) (its l):=fun l hl=>by obtain ⟨i,hi,rfl⟩:=List.getElem_of_mem hl;exact inv i hi hi
 repeat first|refine go ?_|with_reducible intro _
 refine Wk.call rfl rfl (Spl.none _) (anySl (fun x=>¬ Item x) s4x (by omega) fun x hx=>notItem2) rfl rfl rfl ?_
 rintro v' Z' A' hz ⟨⟨b,rfl,hb⟩,rfl,rfl⟩
 cases b with
 | true =>
  obtain ⟨x,hx,hn⟩:=hb.1 rfl
  repeat first|refine go ?_|with_reducible intro _
  refine Wk.ret ⟨_,Rs.tmp rfl Rs.nil,_,Sub.none _,Bis.of (by simp only [Bool.false_eq_true,false_iff];exact fun t=>hn ((siff.1 t).2.2.1 x hx)),rfl⟩
 | false =>
 have hlfi:∀ x∈e.lf,Item x:=fun x hx=>Classical.byContradiction fun q=>by have:=hb.2 ⟨x,hx,q⟩;cases this
 first|apply Wk.olFreezer (v:=vk)|apply Wk.olFreeze (v:=vk)
 case p=>repeat (first|exact Rem.head|apply Rem.tail)
 intro Z5 x5 hA
 obtain ⟨aA,cA,rfl⟩:=hA.form
 have h5z:=x5 _ _ h5'
 repeat first|refine go ?_|with_reducible intro _
 refine Wk.call rfl rfl (Spl.none _) (isOnce_ (es:=plcs d e d.owner.length) hA (by omega) (by omega) (x5 _ _ hm')) rfl rfl rfl ?_
 rintro v' Z' A' hz ⟨⟨b2,rfl,hb2⟩,rfl,rfl⟩
 repeat first|refine go ?_|with_reducible intro _
 refine Wk.ret ⟨_,Rs.tmp rfl Rs.nil,_,Sub.none _,Bis.of ?_,rfl⟩
 rw [hb2,siff]
 exact ⟨fun ⟨a,b,c⟩=>⟨tr,hin,hlfi,a,b,by rw [hPq];exact c⟩,fun ⟨_,_,_,a,b,c⟩=>⟨a,b,by rw [←hPq];exact c⟩⟩
theorem Sound_ {Z:Zone} {cs ct:List Value} {d:Dq} {e:De} (h:DqR Z cs d) (k:DeR Z ct e) (ho:d.owner.length≤1000) (ht:d.thieves.length≤1000) (hlf:e.lf.length≤1000) (htl:∀ l∈e.th,l.length≤1000) (hth:e.th.length≤1000) (how:e.ow.length≤1000) :
  Cz M (.func (.func 29) #[] #[]) [.agg ⟨cs⟩,.agg ⟨ct⟩] Z [] (fun v' Z' A'=>(∃ b:Bool,v'=.tuple ⟨[.bool b,.int .i64 (DqE d)]⟩∧(b=true↔DqE d=0∧SoundP d e))∧A'=[]):=by
 have hD:=h
 have hE:=k
 obtain ⟨p1,p2,p3,p4,rfl,so,st⟩:=h.form
 obtain ⟨a1,cw1,a2,c2,a3,c3,us,rfl,s1,s2,s3,s4⟩:=k.form
 refine Cz.fn (f:=Tryz.f29) (by kernel_rfl) rfl rfl rfl _ rfl ?_
 repeat first|refine go ?_|with_reducible intro _
 refine Wk.call rfl rfl (Spl.none _) (check_ hD ho ht) rfl rfl rfl ?_
 rintro v' Z1 A' hz1 ⟨rfl,rfl⟩
 repeat first|refine go ?_|with_reducible intro _
 refine Wk.cond rfl (fun hc=>?_) (fun hc=>?_)
 ·have hne:¬ DqE d=0:=by simpa using hc
  repeat first|refine go ?_|with_reducible intro _
  refine Wk.ret ⟨_,Rs.tmp rfl (Rs.tmp rfl Rs.nil),_,Sub.none _,⟨false,rfl,by simp [hne]⟩,rfl⟩
 ·have he:DqE d=0:=by simpa using hc
  clear hc
  repeat first|refine go ?_|with_reducible intro _
  refine Wk.call rfl rfl (Spl.none _) (sound_ (hD.mono hz1) (hE.mono hz1) (DqE_zero he) hlf htl hth how) rfl rfl rfl ?_
  rintro v' Z2 A' hz2 ⟨⟨b,rfl,hb⟩,rfl⟩
  rw [he]
  repeat first|refine go ?_|with_reducible intro _
  refine Wk.ret ⟨_,Rs.tmp rfl (Rs.tmp rfl Rs.nil),_,Sub.none _,⟨b,rfl,by simp [hb]⟩,rfl⟩
end Go.Proofs.J
