/- RJ -/
import Derived.Test.YtegbiibfmabnbaaGreatRA
import Derived.Test.YtegbiibfmabnbaaGreatQI
import Derived.Test.YtegbiibfmabnbaaGreatPL
import Derived.Test.YtegbiibfmabnbaaGreatEvF
set_option linter.unusedVariables false
set_option linter.unusedSimpArgs false
set_option maxHeartbeats 4000000
set_option maxRecDepth 100000
namespace Go.Proofs.J
open Go.Ev Go
def LnF (Z:Zone) (d:Dq) (p1:Option Addr) (p2:Nat) (p3:Option Addr) (p4:Nat) (b:Nat) (x:Ln):Prop:=∃ a1 c1 a2 c2 a3 c3 a4 c4 us,Z b=some (lnB d p1 p2 p3 p4 (.slice a1 x.inn.length c1) (.slice a2 x.done.length c2) (.slice a3 x.own.length c3) (.slice a4 x.th.length c4))∧Sl Z 1 (.slice a1 x.inn.length c1) x.inn.length (nums x.inn)∧Sl Z 1 (.slice a2 x.done.length c2) x.done.length (nums x.done)∧Sl Z 1 (.slice a3 x.own.length c3) x.own.length (nums x.own)∧Sl Z 1 (.slice a4 x.th.length c4) x.th.length us∧All2 (fun u l=>Sl Z 1 u l.length (nums l)) us x.th
theorem LnF.mono {Z Z':Zone} {d:Dq} {p1:Option Addr} {p2:Nat} {p3:Option Addr} {p4 b:Nat} {x:Ln} (e:Ext Z Z') (h:LnF Z d p1 p2 p3 p4 b x):LnF Z' d p1 p2 p3 p4 b x:=by
 obtain ⟨a1,c1,a2,c2,a3,c3,a4,c4,us,h0,h1,h2,h3,h4,h5⟩:=h
 exact ⟨a1,c1,a2,c2,a3,c3,a4,c4,us,e _ _ h0,h1.mono e,h2.mono e,h3.mono e,h4.mono e,h5.mono fun _ _ q=>q.mono e⟩
section
variable {fn:FuncId} {rd:Option Nat} {n:Nat} {Q:PQ} {k:List KI} {L:Lo} {Z:Zone} {B:List SA}
theorem Wk.lnFreezer {ops:Array Oper} {dr:Bool} {pl:List Ro} {ps:List Pn} {d:Dq} {p1:Option Addr} {p2:Nat} {p3:Option Addr} {p4 b bd cd:Nat} {vt:Value} {x:Ln} {vi vo:Value} {us:List Value} (htl:x.th.length=d.thieves.length) (h:∀ Z',Ext Z Z'→LnF Z' d p1 p2 p3 p4 b x→Wk M fn rd n Q (.r ops dr pl ps::k) L Z' B):Wk M fn rd n Q (.r ops dr pl ps::k) L Z (LnA d p1 p2 p3 p4 b bd cd vt x vi vo us++B):=by
 refine Wk.knowr .head (fun s h=>oq.form (v:=vi) h) ?_
 rintro ⟨a1,c1,rfl⟩
 refine Wk.knowr (.tail (.tail .head)) (fun s h=>ol.form (v:=vo) h) ?_
 rintro ⟨a3,c3,rfl⟩
 refine Wk.knowr (.tail (.tail (.tail (.tail .head)))) (fun s h=>ol.form (v:=vt) h) ?_
 rintro ⟨a4,c4,rfl⟩
 refine Wk.oqFreezer .head fun Z1 x1 h1=>?_
 refine Wk.alterr (C:=[ol 1 (.slice (some ⟨bd,0,none⟩) x.done.length cd) x.done.length (nums x.done)]) .head (fun s h=>Sat.one (olp.ol h)) ?_
 refine Wk.olFreezer .head fun Z2 x2 h2=>?_
 refine Wk.olFreezer .head fun Z3 x3 h3=>?_
 refine Wk.innFreezer .head fun Z4 x4 h4=>?_
 refine Wk.olFreezer .head fun Z5 x5 h5=>?_
 refine Wk.freezer .head fun Z6 x6 h6=>?_
 refine h Z6 (x1.trans (x2.trans (x3.trans (x4.trans (x5.trans x6))))) ?_
 rw [←htl] at h5 h6
 exact ⟨a1,c1,_,cd,a3,c3,a4,c4,us,h6,h1.mono (x2.trans (x3.trans (x4.trans (x5.trans x6)))),h2.mono (x3.trans (x4.trans (x5.trans x6))),h3.mono (x4.trans (x5.trans x6)),h5.mono x6,(all2_unmap h4).mono fun u l q=>by rw [nums_len] at q;exact q.mono (x5.trans x6)⟩
end
theorem hasF {Z:Zone} {d:Dq} {p1:Option Addr} {p2:Nat} {p3:Option Addr} {p4 b:Nat} {x:Ln} {t:Nat} (h:LnF Z d p1 p2 p3 p4 b x) (so:Sl Z 2 (.slice p1 d.owner.length p2) d.owner.length (d.owner.flatMap actC)) (st:Sl Z 1 (.slice p3 d.thieves.length p4) d.thieves.length (nums d.thieves))
  (hd:x.done.length=d.thieves.length+1) (ht:t < x.done.length) (hs:d.thieves.length≤1000∧d.owner.length≤1000) :
  Cz M (.func (.func 49) #[] #[]) [.pointer (some ⟨b,0,none⟩),.int .i64 t] Z [] (fun v' Z' A'=>Bis v' (x.done[t] < d.many t)∧Z=Z'∧A'=[]):=by
 obtain ⟨a1,c1,a2,c2,a3,c3,a4,c4,us,h0,h1,h2,h3,h4,h5⟩:=h
 have gt:getCells (nums x.done) (t*1) 1=some [.int .i64 x.done[t]]:=getCells_map ht
 refine Cz.fn (f:=Tryz.f49) (by kernel_rfl) rfl rfl rfl _ rfl ?_
 repeat first|refine go ?_|with_reducible intro _
 refine Wk.cond rfl (fun hc=>?_) (fun hc=>?_)
 ·have e0:t=0:=by simp at hc;omega
  subst e0
  clear hc
  repeat first|refine go ?_|with_reducible intro _
  refine Wk.drawr (ms:=[0,1,3,7,15,31,0,64,192,448,960,1984,4095,8191]) (l:=[0,1,2,3,4,5,6,7,8,9,10,11,12,13]) (by kernel_rfl) (by kernel_rfl) (by kernel_rfl) rfl ?_
  repeat first|refine go ?_|with_reducible intro _
  refine Wk.ret ⟨_,Rs.tmp rfl Rs.nil,_,Sub.none _,Bis.of (by simp [Dq.many]),rfl,rfl⟩
 ·have h00:t≠0:=fun k=>by subst k;simp at hc
  have h11:t - 1 < d.thieves.length:=by omega
  clear hc
  repeat first|refine go ?_|with_reducible intro _
  refine Wk.drawr (ms:=[0,1,3,7,0,31,63,0,128,384,896,1920,0,4096,16256,32640,65535,131071]) (l:=[0,1,2,3,4,5,6,7,8,9,10,11,12,13,14,15,16,17]) (by kernel_rfl) (by kernel_rfl) (by kernel_rfl) rfl ?_
  repeat first|refine go ?_|with_reducible intro _
  refine Wk.iaSl (t - 1) st rfl rfl rfl rfl rfl rfl (by omega) h11 (getCells_map h11) fun b off hp=>?_
  repeat first|refine go ?_|with_reducible intro _
  refine Wk.ret ⟨_,Rs.tmp rfl Rs.nil,_,Sub.none _,Bis.of (by rw [many_succ h00 h11];simp),rfl,rfl⟩
theorem equal_ {Z:Zone} {v w:Value} {x y:List Int} (s:Sl Z 1 v x.length (nums x)) (t:Sl Z 1 w y.length (nums y)) (hx:x.length≤1000000) :
  Cz M (.func (.func 134) #[] #[]) [v,w] Z [] (fun v' Z' A'=>Bis v' (x=y)∧Z=Z'∧A'=[]):=by
 obtain ⟨q,c,rfl⟩:=s.form
 obtain ⟨r,e,rfl⟩:=t.form
 refine Cz.fn (f:=Tryz.f134) (by kernel_rfl) rfl rfl rfl _ rfl ?_
 repeat first|refine go ?_|with_reducible intro _
 refine Wk.cond rfl (fun hc=>?_) (fun hc=>?_)
 ·have hn:¬ x=y:=fun q=>by simp [q] at hc
  repeat first|refine go ?_|with_reducible intro _
  refine Wk.ret ⟨_,Rs.tmp rfl Rs.nil,_,Sub.none _,Bis.of (by simp [hn]),rfl,rfl⟩
 have hl:x.length=y.length:=by simp at hc;omega
 clear hc
 repeat first|refine go ?_|with_reducible intro _
 refine Wk.loop (fun mm L Z' A'=>∃ j:Nat,j≤x.length∧mm=x.length - j∧Z=Z'∧Sub A' []∧(∀ i (h:i < x.length),i < j→x[i]=y[i]'(hl▸h))∧Kp L [(0,.slice q x.length c),(1,.slice r y.length e),(12,.int .i64 x.length),(13,.int .i64 j)]) (x.length) ⟨0,Nat.zero_le _,rfl,rfl,(by repeat (first|exact Sub.none _|exact Sub.refl _|refine Sub.keep ?_|refine Sub.drop ?_)),fun i h hi=>by omega,(by repeat (first|exact trivial|refine And.intro rfl ?_|refine And.intro (kpI rfl (by omega)) ?_))⟩ ?_
 rintro mm L Z' A' - ⟨j,hjj,rfl,rfl,hsub,invj,hk⟩
 refine Wk.drop hsub ?_
 refine Wk.kp hk ?_
 clear hk hsub
 repeat first|refine go ?_|with_reducible intro _
 refine Wk.cond rfl (fun hc=>?_) (fun hc=>?_)
 ·have hlt:j < x.length:=by simp at hc;omega
  have hly:j < y.length:=by omega
  clear hc
  have g1:getCells (nums x) (j*1) 1=some [.int .i64 x[j]]:=getCells_map hlt
  have g2:getCells (nums y) (j*1) 1=some [.int .i64 y[j]]:=getCells_map hly
  repeat first|refine go ?_|with_reducible intro _
  refine Wk.drawr (ms:=[0,0,3,7,0,0,48,112,255]) (l:=[0,1,2,3,4,5,6,7,8]) (by kernel_rfl) (by kernel_rfl) (by kernel_rfl) rfl ?_
  repeat first|refine go ?_|with_reducible intro _
  refine Wk.cond rfl (fun hc=>?_) (fun hc=>?_)
  ·have hn:¬ x[j]=y[j]:=by simpa using hc
   repeat first|refine go ?_|with_reducible intro _
   refine Wk.ret ⟨_,Rs.tmp rfl Rs.nil,_,Sub.none _,Bis.of (by simp only [Bool.false_eq_true,false_iff];rintro rfl;exact hn rfl),rfl,rfl⟩
  ·have hy:x[j]=y[j]:=by simpa using hc
   clear hc
   repeat first|refine go ?_|with_reducible intro _
   refine Wk.inv ⟨_,by omega,j+1,by omega,rfl,rfl,(by repeat (first|exact Sub.none _|exact Sub.refl _|refine Sub.keep ?_|refine Sub.drop ?_)),fun i h hi=>?_,(by repeat (first|exact trivial|refine And.intro rfl ?_|refine And.intro (kpI rfl (by omega)) ?_))⟩
   by_cases e:i=j
   ·subst e;exact hy
   ·exact invj i h (by omega)
 ·have hjn:j=x.length:=by simp at hc;omega
  repeat first|refine go ?_|with_reducible intro _
  refine Wk.ret ⟨_,Rs.tmp rfl Rs.nil,_,Sub.none _,Bis.of (by simp only [true_iff];exact List.ext_getElem hl fun i h1 h2=>invj i h1 (by omega)),rfl,rfl⟩
theorem isBegun_ {Z:Zone} {v w:Value} {x y:List Int} (s:Sl Z 1 v x.length (nums x)) (t:Sl Z 1 w y.length (nums y)) (hx:x.length≤1000000) :
  Cz M (.func (.func 168) #[] #[]) [v,w] Z [] (fun v' Z' A'=>Bis v' (y <+: x)∧Z=Z'∧A'=[]):=by
 obtain ⟨q,c,rfl⟩:=s.form
 obtain ⟨r,e,rfl⟩:=t.form
 refine Cz.fn (f:=Tryz.f168) (by kernel_rfl) rfl rfl rfl _ rfl ?_
 repeat first|refine go ?_|with_reducible intro _
 refine Wk.caser 10 rfl (fun hc=>?_) (fun hc=>?_)
 ·have hl:y.length≤x.length:=by simp at hc;omega
  clear hc
  repeat first|refine go ?_|with_reducible intro _
  refine Wk.sliceSlR (l:=0) (h:=y.length) (nh:=some y.length) s rfl rfl rfl rfl rfl rfl rfl rfl rfl (asNatI rfl) rfl ⟨rfl,rfl,by omega,by omega,trivial⟩ fun v14 s14 r14=>?_
  have ht:Sl Z 1 v14 (x.take y.length).length (nums (x.take y.length)):=by
   have e1:(x.take y.length).length=y.length - 0:=by rw [List.length_take];omega
   rw [e1]
   have e2:nums (x.take y.length)=((nums x).drop (0*1)).take ((y.length - 0)*1):=by simp [nums]
   rw [e2];exact s14
  obtain ⟨a14,c14,rfl⟩:=ht.form
  repeat first|refine go ?_|with_reducible intro _
  refine Wk.call rfl rfl (Spl.none _) (equal_ ht t (by rw [List.length_take];omega)) rfl rfl rfl ?_
  rintro v' Z' A' hz ⟨⟨b,rfl,hb⟩,rfl,rfl⟩
  repeat first|refine go ?_|with_reducible intro _
  refine Wk.ret ⟨_,Rs.tmp rfl Rs.nil,_,Sub.none _,Bis.of (by rw [hb,List.prefix_iff_eq_take];exact eq_comm),rfl,rfl⟩
 ·have hl:¬ y.length≤x.length:=by simp at hc;omega
  repeat first|refine go ?_|with_reducible intro _
  refine Wk.ret ⟨_,Rs.tmp rfl Rs.nil,_,Sub.none _,Bis.of (by simp only [Bool.false_eq_true,false_iff];exact fun k=>hl k.length_le),rfl,rfl⟩
theorem agrees_ {Z:Zone} {d:Dq} {p1:Option Addr} {p2:Nat} {p3:Option Addr} {p4 b:Nat} {x:Ln} {ce:List Value} {e:De} (h:LnF Z d p1 p2 p3 p4 b x) (he:DeR Z ce e) (hl:x.th.length=e.th.length) (sm:e.Sm) :
  Cz M (.func (.func 132) #[] #[]) [.pointer (some ⟨b,0,none⟩),.agg ⟨ce⟩] Z [] (fun v' Z' A'=>Bis v' (x.Ag e)∧Z=Z'∧A'=[]):=by
 obtain ⟨a1,c1,a2,c2,a3,c3,a4,c4,us,h0,h1,h2,h3,h4,h5⟩:=h
 obtain ⟨e1,w1,e2,w2,e3,w3,vs,rfl,k1,k2,k3,k4⟩:=he.form
 have s1:=sm.ow
 have s2:=sm.th
 refine Cz.fn (f:=Tryz.f132) (by kernel_rfl) rfl rfl rfl _ rfl ?_
 repeat first|refine go ?_|with_reducible intro _
 rename_i b3
 refine Wk.loop (fun mm L Z' A'=>∃ j:Nat,j≤x.th.length∧mm=x.th.length - j∧Z=Z'∧Sub A' [pt b3 (.cells [.slice e1 e.ow.length w1,.slice e2 e.th.length w2,.slice e3 e.lf.length w3] true 0)]∧(∀ i,i < j→x.th.getD i [] <+: e.th.getD i [])∧Kp L [(0,.pointer (some ⟨b,0,none⟩)),(3,.pointer (some ⟨b3,0,none⟩)),(11,.slice a4 x.th.length c4),(12,.int .i64 x.th.length),(13,.int .i64 j)]) (x.th.length) ⟨0,Nat.zero_le _,rfl,rfl,(by repeat (first|exact Sub.none _|exact Sub.refl _|refine Sub.keep ?_|refine Sub.drop ?_)),fun i hi=>by omega,(by repeat (first|exact trivial|refine And.intro rfl ?_|refine And.intro (kpI rfl (by omega)) ?_))⟩ ?_
 rintro mm L Z' A' - ⟨j,hjj,rfl,rfl,hsub,invj,hk⟩
 refine Wk.drop hsub ?_
 refine Wk.kp hk ?_
 clear hk hsub
 repeat first|refine go ?_|with_reducible intro _
 refine Wk.cond rfl (fun hc=>?_) (fun hc=>?_)
 ·have hlt:j < x.th.length:=by simp at hc;omega
  have hle:j < e.th.length:=by omega
  clear hc
  obtain ⟨au,cu,gu,su⟩:=row_get h5 hlt
  obtain ⟨av,cv,gv,sv⟩:=row_get k3 hle
  have ex:x.th.getD j []=x.th[j]:=by simp [hlt]
  have ee:e.th.getD j []=e.th[j]:=by simp [hle]
  repeat first|refine go ?_|with_reducible intro _
  refine Wk.call rfl rfl (Spl.none _) (isBegun_ sv su (s2.2 _ (List.getElem_mem hle))) rfl rfl rfl ?_
  rintro v' Z' A' hz ⟨⟨r,rfl,hr⟩,rfl,rfl⟩
  repeat first|refine go ?_|with_reducible intro _
  refine Wk.cond rfl (fun hc=>?_) (fun hc=>?_)
  ·have hn:¬ x.th[j] <+: e.th[j]:=fun q=>by rw [hr.2 q] at hc;cases hc
   repeat first|refine go ?_|with_reducible intro _
   refine Wk.ret ⟨_,Rs.tmp rfl Rs.nil,_,Sub.none _,Bis.of (by simp only [Bool.false_eq_true,false_iff];exact fun t=>hn (by have:=t.2 j;rwa [ex,ee] at this)),rfl,rfl⟩
  ·have hy:x.th[j] <+: e.th[j]:=hr.1 (by simpa using hc)
   clear hc
   repeat first|refine go ?_|with_reducible intro _
   refine Wk.inv ⟨_,by omega,j+1,by omega,rfl,rfl,(by repeat (first|exact Sub.none _|exact Sub.refl _|refine Sub.keep ?_|refine Sub.drop ?_)),upTo invj (by rw [ex,ee];exact hy),(by repeat (first|exact trivial|refine And.intro rfl ?_|refine And.intro (kpI rfl (by omega)) ?_))⟩
 ·have hjn:j=x.th.length:=by simp at hc;omega
  subst hjn
  clear hc
  repeat first|refine go ?_|with_reducible intro _
  refine Wk.drawr (ms:=[0,1,0,4,12,28,60,127,255]) (l:=[0,1,2,3,4,5,6,7,8]) (by kernel_rfl) (by kernel_rfl) (by kernel_rfl) rfl ?_
  repeat first|refine go ?_|with_reducible intro _
  refine Wk.callD rfl rfl (Spl.none _) (isBegun_ k1 h3 s1) rfl rfl fun v' Z' A' hz hq=>?_
  obtain ⟨⟨r,rfl,hr⟩,rfl,rfl⟩:=hq
  refine ⟨?_,?_⟩
  ·(repeat (first|exact PnAll.done|refine PnAll.two ?_|refine PnAll.skip rfl ?_|refine PnAll.keep (Rd.loadL rfl rfl (by first|exact Or.inl (by assumption)|(refine Or.inr ?_;repeat (first|exact List.Mem.head _|refine List.Mem.tail _ ?_))) rfl rfl) (by first|exact veq_slice _ _ _|exact veq_int _ _|exact Sl.veq (by assumption)|simp [veq,veqL,veq1,ba_self]) ?_|refine PnAll.keep (by apply Rd.loadP (o:=0);exact rfl;exact rfl;(first|assumption|(refine Pz.mono ?_ (by assumption);assumption));exact rfl;exact rfl) (by first|exact veq_slice _ _ _|exact veq_int _ _|exact Sl.veq (by assumption)|simp [veq,veqL,veq1,ba_self]) ?_))
  repeat first|refine go ?_|with_reducible intro _
  refine Wk.ret ⟨_,Rs.tmp rfl Rs.nil,_,Sub.none _,Bis.of ?_,rfl,rfl⟩
  rw [hr]
  refine ⟨fun q=>⟨q,fun i=>?_⟩,fun q=>q.1⟩
  rcases Nat.lt_or_ge i x.th.length with k|k
  ·exact invj i k
  ·rw [show x.th.getD i []=[] by simp [k]];exact List.nil_prefix
end Go.Proofs.J
namespace Go.Proofs.J
open Go.Ev Go
theorem clone_ {Z:Zone} {d:Dq} {p1:Option Addr} {p2:Nat} {p3:Option Addr} {p4 b:Nat} {x:Ln} (h:LnF Z d p1 p2 p3 p4 b x) (ok:x.Ok d) (ho:d.owner.length≤8) (ht:d.thieves.length≤3) (h4:∀ n∈d.thieves,n≤4) (hz4:d.size≤4) :
  Cz M (.func (.func 133) #[] #[]) [.pointer (some ⟨b,0,none⟩)] Z [] (fun v' Z' A'=>Z=Z'∧∃ b' bd cd vt vi vo us,v'=.pointer (some ⟨b',0,none⟩)∧us.length=d.thieves.length∧A'=LnA d p1 p2 p3 p4 b' bd cd vt x vi vo us):=by
 obtain ⟨a1,c1,a2,c2,a3,c3,a4,c4,us,h0,h1,h2,h3,h40,h5⟩:=h
 have hdn:=ok.dn
 have htl:=ok.tl
 have hin:x.inn.length≤8:=by have:=ok.sz;omega
 have hon:x.own.length≤8:=by
  have h1:=ok.ow
  have h2:=ok.le 0 (by omega)
  rw [getD_at (by omega)] at h1
  have:d.many 0=d.owner.length:=by simp [Dq.many]
  omega
 have hrow:∀ i (hi:i < x.th.length),x.th[i].length≤8:=fun i hi=>by
  have h1:=ok.rw _ hi
  have h2:=ok.le (i+1) (by omega)
  rw [getD_at (by omega)] at h1
  have h3:=many_succ (d:=d) (t:=i+1) (by omega) (by omega)
  have h6:=h4 _ (List.getElem_mem (l:=d.thieves) (n:=i+1 - 1) (by omega))
  omega
 refine Cz.pull ?_
 refine Cz.pull ?_
 refine Cz.pull ?_
 refine Cz.fn (f:=Tryz.f133) (by kernel_rfl) rfl rfl rfl _ rfl ?_
 repeat first|refine go ?_|with_reducible intro _
 rename_i b3
 refine Wk.drawr (ms:=[0,1,3,7,15,0,32,96,224,511,0,1024,3072,7168,15360,32767,65535,131071,262143,524287,1048575,2097151,4194303,8388607,16777215,33554431]) (l:=[0,1,2,3,5,6,7,8,10,11,12,13,14,4,9,15,16,17,18,19,20,21,22,23,24,25]) (by kernel_rfl) (by kernel_rfl) (by kernel_rfl) rfl ?_
 repeat first|refine go ?_|with_reducible intro _
 refine Wk.callD rfl rfl (Spl.none _) (cloneIo h1 (by omega) (ok_nums _)) rfl rfl fun v13 Z' A' hz hq=>?_
 obtain ⟨rfl,rfl⟩:=hq
 refine ⟨?_,?_⟩
 ·(repeat (first|exact PnAll.done|refine PnAll.two ?_|refine PnAll.skip rfl ?_|refine PnAll.keep (Rd.loadL rfl rfl (by first|exact Or.inl (by assumption)|(refine Or.inr ?_;repeat (first|exact List.Mem.head _|refine List.Mem.tail _ ?_))) rfl rfl) (by first|exact veq_slice _ _ _|exact veq_int _ _|exact Sl.veq (by assumption)|simp [veq,veqL,veq1,ba_self]) ?_|refine PnAll.keep (by apply Rd.loadP (o:=0);exact rfl;exact rfl;(first|assumption|(refine Pz.mono ?_ (by assumption);assumption));exact rfl;exact rfl) (by first|exact veq_slice _ _ _|exact veq_int _ _|exact Sl.veq (by assumption)|simp [veq,veqL,veq1,ba_self]) ?_))
 refine Wk.callD rfl rfl (Spl.none _) (cloneIo h2 (by omega) (ok_nums _)) rfl rfl fun v18 Z' A' hz hq=>?_
 obtain ⟨rfl,rfl⟩:=hq
 refine ⟨?_,?_⟩
 ·(repeat (first|exact PnAll.done|refine PnAll.two ?_|refine PnAll.skip rfl ?_|refine PnAll.keep (Rd.loadL rfl rfl (by first|exact Or.inl (by assumption)|(refine Or.inr ?_;repeat (first|exact List.Mem.head _|refine List.Mem.tail _ ?_))) rfl rfl) (by first|exact veq_slice _ _ _|exact veq_int _ _|exact Sl.veq (by assumption)|simp [veq,veqL,veq1,ba_self]) ?_|refine PnAll.keep (by apply Rd.loadP (o:=0);exact rfl;exact rfl;(first|assumption|(refine Pz.mono ?_ (by assumption);assumption));exact rfl;exact rfl) (by first|exact veq_slice _ _ _|exact veq_int _ _|exact Sl.veq (by assumption)|simp [veq,veqL,veq1,ba_self]) ?_))
 refine Wk.callD rfl rfl (Spl.none _) (cloneIo h3 (by omega) (ok_nums _)) rfl rfl fun v24 Z' A' hz hq=>?_
 obtain ⟨rfl,rfl⟩:=hq
 refine ⟨?_,?_⟩
 ·(repeat (first|exact PnAll.done|refine PnAll.two ?_|refine PnAll.skip rfl ?_|refine PnAll.keep (Rd.loadL rfl rfl (by first|exact Or.inl (by assumption)|(refine Or.inr ?_;repeat (first|exact List.Mem.head _|refine List.Mem.tail _ ?_))) rfl rfl) (by first|exact veq_slice _ _ _|exact veq_int _ _|exact Sl.veq (by assumption)|simp [veq,veqL,veq1,ba_self]) ?_|refine PnAll.keep (by apply Rd.loadP (o:=0);exact rfl;exact rfl;(first|assumption|(refine Pz.mono ?_ (by assumption);assumption));exact rfl;exact rfl) (by first|exact veq_slice _ _ _|exact veq_int _ _|exact Sl.veq (by assumption)|simp [veq,veqL,veq1,ba_self]) ?_))
 refine Wk.dropr (B:=[ol 1 v24 _ _,ol 1 v18 _ _,ol 1 v13 _ _,pt b3 _]) (Sub.refl _) ?_
 refine Wk.knowr .head (fun s h=>ol.form (v:=v24) h) ?_
 rintro ⟨a24,c24,rfl⟩
 refine Wk.knowr (.tail (.tail .head)) (fun s h=>ol.form (v:=v13) h) ?_
 rintro ⟨a13,c13,rfl⟩
 refine Wk.olOpenr (sz:=1) (v:=v18) (.tail .head) (by omega) fun bd=>?_
 refine Wk.knowr .head (fun s h=>olp.form (v:=v18) h) ?_
 rintro ⟨cd,rfl,-⟩
 repeat first|refine go ?_|with_reducible intro _
 refine Wk.store rfl rfl rfl rfl rfl (by repeat (first|exact Upd.head|apply Upd.tail)) rfl (by kernel_rfl) rfl ?_
 repeat first|refine go ?_|with_reducible intro _
 refine Wk.olNil 1 ?_
 refine Wk.innNil ?_
 refine Wk.loop (fun mm L Z' A'=>∃ (j:Nat) (vt:Value) (us':List Value),j≤x.th.length∧mm=x.th.length - j∧Z=Z'∧us'.length=j∧A'=[inn us' ((x.th.take j).map nums),ol 1 vt j us',olp bd 1 (.slice (some ⟨bd,0,none⟩) x.done.length cd) x.done.length (nums x.done),ol 1 (.slice a24 x.own.length c24) x.own.length (nums x.own),ol 1 (.slice a13 x.inn.length c13) x.inn.length (nums x.inn),pt b3 (lnB d p1 p2 p3 p4 (.slice a13 x.inn.length c13) (.slice (some ⟨bd,0,none⟩) x.done.length cd) (.slice a24 x.own.length c24) vt)]∧Kp L [(3,.pointer (some ⟨b3,0,none⟩)),(35,.slice a4 x.th.length c4),(36,.int .i64 x.th.length),(37,.int .i64 j)]) x.th.length ⟨0,.slice none 0 0,[],Nat.zero_le _,rfl,rfl,rfl,rfl,(by repeat (first|exact trivial|refine And.intro rfl ?_|refine And.intro (kpI rfl (by omega)) ?_))⟩ ?_
 rintro mm L Z' A' - ⟨j,vt,us',hj,rfl,rfl,hus,rfl,hk⟩
 refine Wk.kp hk ?_
 clear hk
 first|refine Wk.knowr (by repeat (first|exact Rem.head|apply Rem.tail)) (fun s h=>ol.form (v:=vt) h) ?_|refine Wk.know (by repeat (first|exact Rem.head|apply Rem.tail)) (fun s h=>ol.form (v:=vt) h) ?_
 rintro ⟨at_,ct,rfl⟩
 repeat first|refine go ?_|with_reducible intro _
 refine Wk.cond rfl (fun hc=>?_) (fun hc=>?_)
 ·have hlt:j < x.th.length:=by simp at hc;omega
  clear hc
  obtain ⟨au,cu,gu,su⟩:=row_get h5 hlt
  have hr:=hrow j hlt
  have su':Sl Z 1 (.slice au x.th[j].length cu) (nums x.th[j]).length (nums x.th[j]):=by rw [nums_len];exact su
  repeat first|refine go ?_|with_reducible intro _
  refine Wk.drawr (ms:=[0,1,3,0,8,24,63,127,255,511]) (l:=[0,1,2,3,4,5,6,7,8,9]) (by kernel_rfl) (by kernel_rfl) (by kernel_rfl) rfl ?_
  repeat first|refine go ?_|with_reducible intro _
  refine Wk.callD rfl rfl (Spl.none _) (cloneIo su' (by rw [nums_len];omega) (ok_nums _)) rfl rfl fun v45 Z' A' hz hq=>?_
  obtain ⟨rfl,rfl⟩:=hq
  refine ⟨?_,?_⟩
  ·(repeat (first|exact PnAll.done|refine PnAll.two ?_|refine PnAll.skip rfl ?_|refine PnAll.keep (Rd.loadL rfl rfl (by first|exact Or.inl (by assumption)|(refine Or.inr ?_;repeat (first|exact List.Mem.head _|refine List.Mem.tail _ ?_))) rfl rfl) (by first|exact veq_slice _ _ _|exact veq_int _ _|exact Sl.veq (by assumption)|simp [veq,veqL,veq1,ba_self]) ?_|refine PnAll.keep (by apply Rd.loadP (o:=0);exact rfl;exact rfl;(first|assumption|(refine Pz.mono ?_ (by assumption);assumption));exact rfl;exact rfl) (by first|exact veq_slice _ _ _|exact veq_int _ _|exact Sl.veq (by assumption)|simp [veq,veqL,veq1,ba_self]) ?_))
  refine Wk.dropr (B:=ol 1 v45 _ _::_) (Sub.refl _) ?_
  refine Wk.knowr .head (fun s h=>ol.form (v:=v45) h) ?_
  rintro ⟨a45,c45,rfl⟩
  refine Wk.bs (cs:=[.slice a45 (nums x.th[j]).length c45]) rfl rfl rfl rfl rfl rfl rfl fun b46=>?_
  refine Wk.appendD (kk:=1) (new:=[.slice a45 (nums x.th[j]).length c45]) rfl rfl rfl rfl rfl rfl rfl rfl (.tail (.tail (.tail .head))) (Src.lit (by first|exact Or.inl (by assumption)|(refine Or.inr ?_;repeat (first|exact List.Mem.head _|refine List.Mem.tail _ ?_))) rfl) rfl rfl rfl (by omega) (by omega) rfl rfl fun v47=>⟨?_,?_⟩
  ·(repeat (first|exact PnAll.done|refine PnAll.two ?_|refine PnAll.skip rfl ?_|refine PnAll.keep (Rd.loadL rfl rfl (by first|exact Or.inl (by assumption)|(refine Or.inr ?_;repeat (first|exact List.Mem.head _|refine List.Mem.tail _ ?_))) rfl rfl) (by first|exact veq_slice _ _ _|exact veq_int _ _|exact Sl.veq (by assumption)|simp [veq,veqL,veq1,ba_self]) ?_|refine PnAll.keep (by apply Rd.loadP (o:=0);exact rfl;exact rfl;(first|assumption|(refine Pz.mono ?_ (by assumption);assumption));exact rfl;exact rfl) (by first|exact veq_slice _ _ _|exact veq_int _ _|exact Sl.veq (by assumption)|simp [veq,veqL,veq1,ba_self]) ?_))
  refine Wk.dropr (.keep (.drop (Sub.refl _))) ?_
  refine Wk.knowr .head (fun s h=>ol.form (v:=v47) h) ?_
  rintro ⟨a47,c47,rfl⟩
  refine Wk.innSnocr (.r (.l (.l (Spl.none _)))) ?_
  repeat first|refine go ?_|with_reducible intro _
  refine Wk.store rfl rfl rfl rfl rfl (by repeat (first|exact Upd.head|apply Upd.tail)) rfl (by kernel_rfl) rfl ?_
  repeat first|refine go ?_|with_reducible intro _
  refine Wk.inv ⟨_,by omega,j+1,.slice a47 (j+1) c47,us'++[.slice a45 (nums x.th[j]).length c45],hlt,rfl,rfl,by simp [hus],by rw [List.take_succ_eq_append_getElem hlt,List.map_append];rfl,(by repeat (first|exact trivial|refine And.intro rfl ?_|refine And.intro (kpI rfl (by omega)) ?_))⟩
 ·have hjn:j=x.th.length:=by simp at hc;omega
  subst hjn
  rw [List.take_length]
  clear hc
  refine Wk.olq (.tail (.tail (.tail (.tail .head)))) ?_
  repeat first|refine go ?_|with_reducible intro _
  refine Wk.ret ⟨_,Rs.tmp rfl Rs.nil,_,Sub.refl _,_,_,.tail (.tail (.tail (.tail .head))),_,_,.tail (.tail (.tail (.tail .head))),_,_,.tail (.tail .head),rfl,b3,bd,cd,.slice at_ x.th.length ct,.slice a13 x.inn.length c13,.slice a24 x.own.length c24,us',rfl,by rw [hus,htl],?_⟩
  show _=[oq 1 _ _ _,olp bd 1 _ _ _,ol 1 _ _ _,inn _ _,ol 1 _ d.thieves.length us',pt b3 _]
  rw [←htl]
end Go.Proofs.J
namespace Go.Proofs.J
open Go.Ev Go
def key4 (l:List Int):Int×Int×Int×Int:=(l.getD 0 0,l.getD 1 0,l.getD 2 0,l.getD 3 0)
theorem key4_inj {l m:List Int} (h:l.length=m.length) (h4:l.length≤4) (k:key4 l=key4 m):l=m:=by
 simp only [key4,Prod.mk.injEq] at k
 obtain ⟨k0,k1,k2,k3⟩:=k
 apply List.ext_getElem h
 intro i hi hj
 have e:∀ i (hi:i < l.length) (hj:i < m.length),l.getD i 0=m.getD i 0→l[i]=m[i]:=fun i hi hj q=>by simpa [hi,hj] using q
 have:i=0∨i=1∨i=2∨i=3:=by omega
 rcases this with rfl|rfl|rfl|rfl
 ·exact e _ _ _ k0
 ·exact e _ _ _ k1
 ·exact e _ _ _ k2
 ·exact e _ _ _ k3
abbrev c4 (a:Int×Int×Int×Int):List Value:=[.int .i64 a.1,.int .i64 a.2.1,.int .i64 a.2.2.1,.int .i64 a.2.2.2]
theorem copy4:∀ (l:List Int),1≤l.length→l.length≤4→(nums l).take (Nat.min l.length 4*1)++[Value.int .i64 0,.int .i64 0,.int .i64 0,.int .i64 0].drop (Nat.min l.length 4*1)=c4 (key4 l)
 | [],h,_=>by simp at h
 | [a],_,_=>rfl
 | [a,b],_,_=>rfl
 | [a,b,c],_,_=>rfl
 | [a,b,c,d],_,_=>rfl
 | a::b::c::d::e::l,_,h=>by simp at h
abbrev mp4 (K:List (List Int)):AObj:=.map ((K.map key4).map fun b=>(k4 b,Value.bool true))
theorem sumL_le:∀ {l:List Int} {B:Int},(∀ y∈l,y≤B)→sumL l≤B*l.length
 | [],B,_=>by simp [sumL]
 | a::l,B,h=>by
  have h1:=h a (List.mem_cons_self ..)
  have h2:=sumL_le fun y hy=>h y (List.mem_cons_of_mem a hy)
  have e:B*((a::l).length:Int)=B*(l.length:Int)+B:=by rw [List.length_cons];push_cast;rw [Int.mul_add,Int.mul_one]
  rw [sumL,e];omega
theorem Ln.Ok.sum {d:Dq} (hd:d.Ok) {x:Ln} (ok:x.Ok d):sumL x.done≤32:=by
 have dn:=ok.dn
 have l2:=hd.lim.2.1
 have h:∀ y∈x.done,y≤8:=fun y hy=>by
  obtain ⟨t,ht,rfl⟩:=List.getElem_of_mem hy
  have:=ok.le t ht
  by_cases h0:t=0
  ·subst h0
   have:d.many 0=d.owner.length:=by simp [Dq.many]
   have:=hd.lim.1
   omega
  ·have h1:=many_succ (d:=d) (t:=t) h0 (by omega)
   have h4:=hd.lim.2.2 _ (List.getElem_mem (l:=d.thieves) (n:=t - 1) (by omega))
   omega
 have:=sumL_le h
 have e:(8:Int)*(x.done.length:Int)≤32:=by omega
 omega
theorem mem_key {K:List (List Int)} {n:Nat} (hK:∀ k∈K,k.length=n) (h4:n≤4) {l:List Int} (hl:l.length=n):key4 l∈K.map key4↔l∈K:=by
 constructor
 ·intro h
  obtain ⟨k,hk,e⟩:=List.mem_map.1 h
  have:=key4_inj (by rw [hK k hk,hl]) (by rw [hK k hk];exact h4) e
  exact this▸hk
 ·exact fun h=>List.mem_map.2 ⟨l,h,rfl⟩
def ExQ (d:Dq) (e:De) (bm:Nat) (x:Ln) (K:List (List Int)) (v':Value) (A':List SA):Prop:=∃ (r:Bool) (N:List (List Int)),v'=.bool r∧(r=true↔x.Ex d e)∧A'=[pt bm (mp4 (K++N))]∧(r=false→Mt d e (K++N) (sumL x.done))∧∀ k∈N,sumL x.done≤sumL k∧k.length=d.thieves.length+1
theorem explained_ {d:Dq} {e:De} {p1:Option Addr} {p2:Nat} {p3:Option Addr} {p4 bm:Nat} {ce:List Value} (hd:d.Ok) (sm:e.Sm) (w1:(e.ow.length:Int)=d.many 0) (w2:e.th.length=d.thieves.length) (w3:∀ k (hk:k < e.th.length),(e.th[k].length:Int)=d.many (k+1)):∀ (n:Nat) {Z:Zone} {b:Nat} {x:Ln} {K:List (List Int)},40≤(n:Int)+sumL x.done→LnF Z d p1 p2 p3 p4 b x→x.Inv d→Sl Z 2 (.slice p1 d.owner.length p2) d.owner.length (d.owner.flatMap actC)→Sl Z 1 (.slice p3 d.thieves.length p4) d.thieves.length (nums d.thieves)→DeR Z ce e→Mt d e K (sumL x.done)→(∀ k∈K,k.length=d.thieves.length+1) →
  Cz M (.func (.func 73) #[] #[]) [.pointer (some ⟨b,0,none⟩),.agg ⟨ce⟩,.map (some bm)] Z [pt bm (mp4 K)] (fun v' Z' A'=>ExQ d e bm x K v' A')
 | 0,Z,b,x,K,hn,hF,iv,so,st,he,hm,hK=>by
  have:=iv.ok.sum hd
  exfalso;omega
 | n+1,Z,b,x,K,hn,hF,iv,so,st,he,hm,hK=>by
  have hF0:=hF
  have he0:=he
  have ok:=iv.ok
  have dn:=ok.dn
  have tl:=ok.tl
  have l1:=hd.lim.1
  have l2:=hd.lim.2.1
  have l3:=hd.lim.2.2
  have g1:=hd.rng.1
  obtain ⟨a1,c1,a2,c2,a3,c3,a4,c4',us,h0,h1,h2,h3,h40,h5⟩:=hF
  obtain ⟨e1,u1,e2,u2,e3,u3,vs,rfl,k1,k2,k3,k4_⟩:=he.form
  clear he
  refine Cz.fn (f:=Tryz.f73) (by kernel_rfl) rfl rfl rfl _ rfl ?_
  repeat first|refine go ?_|with_reducible intro _
  rename_i b4 b7
  refine Wk.drawr (ms:=[0,0,2,6,14,31]) (l:=[0,1,2,3,4,5]) (by kernel_rfl) (by kernel_rfl) (by kernel_rfl) rfl ?_
  refine Wk.v rfl rfl rfl (Rd.sliceArr rfl rfl rfl) ?_
  repeat first|refine go ?_|with_reducible intro _
  refine Wk.alterr (x:=pt b7 _) (C:=[ol 1 (.slice (some ⟨b7,0,none⟩) 4 4) 4 [.int .i64 0,.int .i64 0,.int .i64 0,.int .i64 0]]) (by repeat (first|exact Rem.head|apply Rem.tail)) (fun s h=>ol_of_pt (m:=4) (g:=0) rfl (.inl rfl) rfl h) ?_
  refine Wk.copy rfl rfl rfl rfl rfl rfl Rem.head (Src.sl h2) (ok_nums _) (by simp) (by kernel_rfl) rfl rfl ?_
  rw [copy4 x.done (by omega) (by omega)]
  refine Wk.olOpenr (sz:=1) (v:=.slice (some ⟨b7,0,none⟩) 4 4) Rem.head (by decide) fun bo=>?_
  refine Wk.knowr Rem.head (fun s h=>olp.form h) ?_
  rintro ⟨cc,heq,-⟩
  cases heq
  generalize hkey:key4 x.done=key
  refine Wk.dropr (B:=[olp b7 1 (.slice (some ⟨b7,0,none⟩) 4 4) 4 (c4 key),pt b4 (.cells [.slice e1 e.ow.length u1,.slice e2 e.th.length u2,.slice e3 e.lf.length u3] true 0),pt bm (mp4 K)]) (Sub.refl _) ?_
  repeat first|refine go ?_|with_reducible intro _
  refine Wk.loadOlp (b:=b7) (cs:=c4 key) (v:=k4 key) rfl rfl (by repeat (first|exact Rem.head|apply Rem.tail)) rfl rfl rfl rfl ?_
  have hkm:key∈K.map key4↔x.done∈K:=by rw [←hkey];exact mem_key hK (by omega) (by omega)
  rcases find4_or (a:=key) (es:=K.map key4) (i:=0) with ⟨f1,f2⟩|⟨jj,f1,f2⟩
  rotate_left
  ·refine Wk.lookup rfl rfl rfl rfl (by first|exact Or.inl (by assumption)|(refine Or.inr ?_;repeat (first|exact List.Mem.head _|refine List.Mem.tail _ ?_))) rfl ((keyFind_4 rfl rfl key _ 0).trans (by rw [f1])) rfl rfl rfl rfl ?_
   have hno:¬ x.Ex d e:=hm _ (hkm.1 f2) (Int.le_refl _) x iv rfl
   repeat first|refine go ?_|with_reducible intro _
   refine Wk.ret ⟨_,Rs.tmp rfl Rs.nil,_,.drop (.drop (Sub.refl _)),false,[],rfl,by simp [hno],by rw [List.append_nil],fun _=>by rw [List.append_nil];exact hm,by simp⟩
  refine Wk.lookup rfl rfl rfl rfl (by first|exact Or.inl (by assumption)|(refine Or.inr ?_;repeat (first|exact List.Mem.head _|refine List.Mem.tail _ ?_))) rfl ((keyFind_4 rfl rfl key _ 0).trans (by rw [f1])) rfl rfl rfl rfl ?_
  repeat first|refine go ?_|with_reducible intro _
  refine Wk.call rfl rfl (Spl.none _) (agrees_ hF0 he0 (by rw [tl,w2]) sm) rfl rfl rfl ?_
  rintro v' Z' A' hz ⟨⟨r,rfl,hr⟩,rfl,rfl⟩
  repeat first|refine go ?_|with_reducible intro _
  refine Wk.cond rfl (fun hc=>?_) (fun hc=>?_)
  ·have hna:¬ x.Ag e:=fun q=>by rw [hr.2 q] at hc;cases hc
   have hno:¬ x.Ex d e:=fun q=>hna q.ag
   repeat first|refine go ?_|with_reducible intro _
   refine Wk.ret ⟨_,Rs.tmp rfl Rs.nil,_,.drop (.drop (Sub.refl _)),false,[],rfl,by simp [hno],by rw [List.append_nil],fun _=>by rw [List.append_nil];exact hm,by simp⟩
  have ag:x.Ag e:=hr.1 (by simpa using hc)
  clear hc hr
  repeat first|refine go ?_|with_reducible intro _
  refine Wk.loadOlp (b:=b7) (cs:=c4 key) (v:=k4 key) rfl rfl (by repeat (first|exact Rem.head|apply Rem.tail)) rfl rfl rfl rfl ?_
  refine Wk.olShutr Rem.head ?_
  refine Wk.mapUp rfl rfl rfl rfl rfl ((keyFind_4 rfl rfl key _ 0).trans (by rw [f1])) (.tail (.tail .head)) (by kernel_rfl) rfl ?_
  have emp:((K.map key4).map fun b=>(k4 b,Value.bool true))++[(k4 key,Value.bool true)]=((K++[x.done]).map key4).map fun b=>(k4 b,Value.bool true):=by simp [hkey]
  rw [emp]
  refine Wk.dropr (B:=[pt b4 (.cells [.slice e1 e.ow.length u1,.slice e2 e.th.length u2,.slice e3 e.lf.length u3] true 0),pt bm (mp4 (K++[x.done]))]) (.drop (Sub.refl _)) ?_
  repeat first|refine go ?_|with_reducible intro _
  refine Wk.alter (x:=pt bm (mp4 (K++[x.done]))) (C:=[pt bm (mp4 (K++[x.done]))]) (.tail .head) (fun s h=>Sat.one h) ?_
  refine Wk.loop (fun mm L Z' A'=>∃ (t:Nat) (N:List (List Int)) (ev:Bool),t≤x.done.length∧mm=x.done.length - t∧Ext Z Z'∧A'=[pt bm (mp4 (K++[x.done]++N)),pt b4 (.cells [.slice e1 e.ow.length u1,.slice e2 e.th.length u2,.slice e3 e.lf.length u3] true 0)]∧((ev=true↔∀ u (h:u < x.done.length),u < t→¬ x.done[u] < d.many u)∧(∀ u (h:u < x.done.length),u < t→x.done[u] < d.many u→¬ (x.step d u).Ex d e)∧Mt d e (K++[x.done]++N) (sumL x.done+1)∧∀ k∈N,sumL x.done+1≤sumL k∧k.length=d.thieves.length+1)∧Kp L [(0,.pointer (some ⟨b,0,none⟩)),(2,.map (some bm)),(4,.pointer (some ⟨b4,0,none⟩)),(8,.bool ev),(32,.int .i64 x.done.length),(33,.int .i64 t)]) x.done.length ⟨0,[],true,Nat.zero_le _,rfl,Ext.refl _,by rw [List.append_nil];rfl,⟨by simp,fun u h q=>by omega,by rw [List.append_nil];exact hm.cons,by simp⟩,(by repeat (first|exact trivial|refine And.intro rfl ?_|refine And.intro (kpI rfl (by omega)) ?_))⟩ ?_
  rintro mm L Z1 A' - ⟨t,N,ev,htn,rfl,x1,rfl,⟨i1,i2,i3,i4⟩,hk⟩
  refine Wk.kp hk ?_
  clear hk
  have hF1:=hF0.mono x1
  have so1:=so.mono x1
  have st1:=st.mono x1
  have he1:=he0.mono x1
  repeat first|refine go ?_|with_reducible intro _
  refine Wk.cond rfl (fun hc=>?_) (fun hc=>?_)
  ·have htt:t < x.done.length:=by simp at hc;omega
   clear hc
   repeat first|refine go ?_|with_reducible intro _
   refine Wk.call rfl rfl (Spl.none _) (hasF hF1 so1 st1 dn htt ⟨by omega,by omega⟩) rfl rfl rfl ?_
   rintro v' Z' A' hz ⟨⟨r,rfl,hr⟩,rfl,rfl⟩
   repeat first|refine go ?_|with_reducible intro _
   refine Wk.cond rfl (fun hc=>?_) (fun hc=>?_)
   ·have hno:¬ x.done[t] < d.many t:=fun q=>by rw [hr.2 q] at hc;cases hc
    clear hc hr
    repeat first|refine go ?_|with_reducible intro _
    refine Wk.inv ⟨_,by omega,t+1,N,ev,htt,rfl,x1,rfl,⟨?_,?_,i3,i4⟩,(by repeat (first|exact trivial|refine And.intro rfl ?_|refine And.intro (kpI rfl (by omega)) ?_))⟩
    ·rw [i1]
     refine ⟨fun q u h hu=>?_,fun q u h hu=>q u h (by omega)⟩
     by_cases eq:u=t
     ·subst eq;exact hno
     ·exact q u h (by omega)
    ·intro u h hu hl
     by_cases eq:u=t
     ·subst eq;exact absurd hl hno
     ·exact i2 u h (by omega) hl
   have hyes:x.done[t] < d.many t:=hr.1 (by simpa using hc)
   clear hc hr
   have iv':=iv.step hd htt hyes
   have hsum:=Ln.sum_step (d:=d) (x:=x) htt
   repeat first|refine go ?_|with_reducible intro _
   refine Wk.call rfl rfl (Spl.none _) (clone_ hF1 ok l1 l2 l3 (by omega)) rfl rfl rfl ?_
   rintro v' Z' A' hz ⟨rfl,b',bd,cd,vt,vi,vo,us',rfl,hus,rfl⟩
   repeat first|refine go ?_|with_reducible intro _
   refine Wk.call rfl rfl (.l (.l (.l (.l (.l (.l (Spl.none _))))))) (do_ so1 ok htt hyes hus l1 l2 l3 (by omega)) rfl rfl rfl ?_
   rintro v' Z' A' hz ⟨rfl,vi',vo',us2,hus2,rfl⟩
   refine Wk.lnFreezer (x:=x.step d t) iv'.ok.tl fun Z3 x3 hF3=>?_
   have he3:=he1.mono x3
   repeat first|refine go ?_|with_reducible intro _
   refine Wk.call rfl rfl (.l (Spl.none _)) (explained_ hd sm w1 w2 w3 n (by omega) hF3 iv' (so1.mono x3) (st1.mono x3) he3 (by rw [hsum];exact i3) (fun k hk=>?_)) rfl rfl rfl ?_
   ·rcases List.mem_append.1 hk with q|q
    ·rcases List.mem_append.1 q with q|q
     ·exact hK k q
     ·rw [List.mem_singleton.1 q];exact dn
    ·exact (i4 k q).2
   rintro v' Z4 A' hz4 ⟨r,N2,rfl,hr,rfl,hM,hN2⟩
   rw [hsum] at hM hN2
   repeat first|refine go ?_|with_reducible intro _
   refine Wk.cond rfl (fun hc=>?_) (fun hc=>?_)
   ·have hex:=Ln.Ex.of_step htt hyes (hr.1 hc)
    repeat first|refine go ?_|with_reducible intro _
    refine Wk.ret ⟨_,Rs.tmp rfl Rs.nil,_,.keep (Sub.none _),true,[x.done]++N++N2,rfl,by simp [hex],by simp [List.append_assoc],(fun q=>by cases q),fun k hk=>?_⟩
    rcases List.mem_append.1 hk with q|q
    ·rcases List.mem_append.1 q with q|q
     ·rw [List.mem_singleton.1 q];exact ⟨Int.le_refl _,dn⟩
     ·have:=i4 k q;exact ⟨by omega,this.2⟩
    ·have:=hN2 k q;exact ⟨by omega,this.2⟩
   ·have hne:¬ (x.step d t).Ex d e:=fun q=>by rw [hr.2 q] at hc;cases hc
    obtain rfl:r=false:=by simpa using hc
    clear hc hr
    repeat first|refine go ?_|with_reducible intro _
    refine Wk.inv ⟨_,by omega,t+1,N++N2,false,htt,rfl,x1.trans (x3.trans hz4),by rw [←List.append_assoc];rfl,⟨?_,?_,by rw [←List.append_assoc];exact hM rfl,?_⟩,(by repeat (first|exact trivial|refine And.intro rfl ?_|refine And.intro (kpI rfl (by omega)) ?_))⟩
    ·simp only [Bool.false_eq_true,false_iff]
     exact fun q=>q t htt (by omega) hyes
    ·intro u h hu hl
     by_cases eq:u=t
     ·subst eq;exact hne
     ·exact i2 u h (by omega) hl
    ·intro k hk
     rcases List.mem_append.1 hk with q|q
     ·exact i4 k q
     ·exact hN2 k q
  ·have htd:t=x.done.length:=by simp at hc;omega
   subst htd
   clear hc
   have noEx:x.Ex d e→x.End d∧x.own=e.ow∧x.th=e.th∧x.inn=e.lf:=fun q=>by
    rcases q.cases with q|⟨u,h,hl,q⟩
    ·exact q
    ·exact absurd q (i2 u h h hl)
   have over:¬ x.Ex d e→Mt d e (K++([x.done]++N)) (sumL x.done):=fun q=>by
    rw [←List.append_assoc]
    exact Mt.over iv ag hm i3 (fun k hk=>(i4 k hk).1) q
   have hN:∀ k∈[x.done]++N,sumL x.done≤sumL k∧k.length=d.thieves.length+1:=fun k hk=>by
    rcases List.mem_append.1 hk with q|q
    ·rw [List.mem_singleton.1 q];exact ⟨Int.le_refl _,dn⟩
    ·have:=i4 k q;exact ⟨by omega,this.2⟩
   cases ev with
   | false =>
    have hno:¬ x.Ex d e:=fun q=>by have:=i1.2 fun u h _=>(noEx q).1 u h;cases this
    repeat first|refine go ?_|with_reducible intro _
    refine Wk.drawr (ms:=[0,1,3,7,15,31,3,67,255,511,1023]) (l:=[0,1,2,3,4,5,6,7,8,9,10]) (by kernel_rfl) (by kernel_rfl) (by kernel_rfl) rfl ?_
    repeat first|refine go ?_|with_reducible intro _
    refine Wk.ret ⟨_,Rs.tmp rfl Rs.nil,_,.keep (Sub.none _),false,[x.done]++N,rfl,by simp [hno],by rw [←List.append_assoc],fun _=>over hno,hN⟩
   | true =>
    have hend:x.End d:=fun u h=>i1.1 rfl u h h
    obtain ⟨q1,q2⟩:=ag.full iv hend w1 w2 w3
    obtain ⟨a1',c1',a2',c2',a3',c3',a4',c4'',us',h0',h1',h2',h3',h40',h5'⟩:=hF1
    obtain ⟨e1',u1',e2',u2',e3',u3',vs',heq2,k1',k2',k3',k4'⟩:=he1.form
    cases heq2
    repeat first|refine go ?_|with_reducible intro _
    refine Wk.drawr (ms:=[0,1,3,7,15,31,3,67,255,511,1023]) (l:=[0,1,2,3,4,5,6,7,8,9,10]) (by kernel_rfl) (by kernel_rfl) (by kernel_rfl) rfl ?_
    repeat first|refine go ?_|with_reducible intro _
    refine Wk.callD rfl rfl (Spl.none _) (equal_ h1' k4' (by have:=ok.sz;omega)) rfl rfl fun v' Z' A' hz hq=>?_
    obtain ⟨⟨r,rfl,hr⟩,rfl,rfl⟩:=hq
    refine ⟨?_,?_⟩
    ·(repeat (first|exact PnAll.done|refine PnAll.two ?_|refine PnAll.skip rfl ?_|refine PnAll.keep (Rd.loadL rfl rfl (by first|exact Or.inl (by assumption)|(refine Or.inr ?_;repeat (first|exact List.Mem.head _|refine List.Mem.tail _ ?_))) rfl rfl) (by first|exact veq_slice _ _ _|exact veq_int _ _|exact Sl.veq (by assumption)|simp [veq,veqL,veq1,ba_self]) ?_|refine PnAll.keep (by apply Rd.loadP (o:=0);exact rfl;exact rfl;(first|assumption|(refine Pz.mono ?_ (by assumption);assumption));exact rfl;exact rfl) (by first|exact veq_slice _ _ _|exact veq_int _ _|exact Sl.veq (by assumption)|simp [veq,veqL,veq1,ba_self]) ?_))
    have hex:r=true↔x.Ex d e:=by
     rw [hr]
     exact ⟨fun q=>⟨x,.refl x,hend,q1,q2,q⟩,fun q=>(noEx q).2.2.2⟩
    repeat first|refine go ?_|with_reducible intro _
    refine Wk.ret ⟨_,Rs.tmp rfl Rs.nil,_,.keep (Sub.none _),r,[x.done]++N,rfl,hex,by rw [←List.append_assoc],(fun q=>over fun q2=>by rw [hex.2 q2] at q;cases q),hN⟩
end Go.Proofs.J
namespace Go.Proofs.J
open Go.Ev Go
def keptL (l:List Int):List Int:=l.filter fun n=>decide (n≠-1)
def Dq.kp (d:Dq) (e:De):Dq:={ d with thieves:=e.th.map fun l=>((keptL l).length:Int) }
def De.kp (e:De):De:=⟨e.ow,e.th.map keptL,e.lf⟩
structure ExplP (d:Dq) (e:De):Prop where
 l1:e.ow.length=d.owner.length
 l2:e.th.length=d.thieves.length
 l3:∀ i (h:i < d.thieves.length) (k:i < e.th.length),(e.th[i].length:Int)=d.thieves[i]
 ex:(Ln.z (d.kp e)).Ex (d.kp e) e.kp
theorem keptL_len (l:List Int):(keptL l).length≤l.length:=List.length_filter_le ..
theorem flt_kept (l:List Int):flt (fun x=>x=-1) l=keptL l:=by
 unfold flt keptL
 exact List.filter_congr fun x _=>by simp
theorem kp_ok {d:Dq} {e:De} (ok:d.Ok) (l2:e.th.length=d.thieves.length) (l3:∀ i (h:i < d.thieves.length) (k:i < e.th.length),(e.th[i].length:Int)=d.thieves[i]):(d.kp e).Ok:=by
 have key:∀ n∈(d.kp e).thieves,0≤n∧n≤4:=fun n hn=>by
  obtain ⟨l,hl,rfl⟩:=List.mem_map.1 hn
  obtain ⟨i,hi,rfl⟩:=List.getElem_of_mem hl
  have h1:=l3 i (by omega) hi
  have h2:=ok.lim.2.2 _ (List.getElem_mem (l:=d.thieves) (n:=i) (by omega))
  have h3:=keptL_len e.th[i]
  omega
 refine ⟨⟨ok.lim.1,by show (e.th.map _).length≤3;rw [List.length_map,l2];exact ok.lim.2.1,fun n hn=>(key n hn).2⟩,⟨ok.rng.1,ok.rng.2.1,ok.rng.2.2.1,fun n hn=>(key n hn).1⟩,ok.frm,ok.onc⟩
theorem isLost_ {Z:Zone} {x:Int}:Cz M (.func (.func 71) #[] #[]) [.int .i64 x] Z [] (fun v' Z' A'=>Bis v' (x=-1)∧Z=Z'∧A'=[]):=by
 refine Cz.fn (f:=Tryz.f71) (by kernel_rfl) rfl rfl rfl _ rfl ?_
 repeat first|refine go ?_|with_reducible intro _
 refine Wk.ret ⟨_,Rs.tmp rfl Rs.nil,_,Sub.none _,Bis.of (by simp),rfl,rfl⟩
theorem Explained_ {Z:Zone} {cs ct:List Value} {d:Dq} {e:De} (h:DqR Z cs d) (k:DeR Z ct e) (ho:d.owner.length≤1000) (ht:d.thieves.length≤1000) (sm:e.Sm) :
  Cz M (.func (.func 31) #[] #[]) [.agg ⟨cs⟩,.agg ⟨ct⟩] Z [] (fun v' Z' A'=>(∃ b:Bool,v'=.tuple ⟨[.bool b,.int .i64 (DqE d)]⟩∧(b=true↔DqE d=0∧ExplP d e))∧A'=[]):=by
 have hD:=h
 have hE:=k
 have sm1:=sm.ow
 have sm2:=sm.th
 obtain ⟨p1,p2,p3,p4,rfl,so,st⟩:=h.form
 obtain ⟨a1,cw1,a2,c2,a3,c3,us,rfl,s1,s2,s3,s4⟩:=k.form
 clear h k
 refine Cz.fn (f:=Tryz.f31) (by kernel_rfl) rfl rfl rfl _ rfl ?_
 repeat first|refine go ?_|with_reducible intro _
 rename_i b2 b3
 refine Wk.call rfl rfl (Spl.none _) (check_ hD ho ht) rfl rfl rfl ?_
 rintro v' Z1 A' hz1 ⟨rfl,rfl⟩
 repeat first|refine go ?_|with_reducible intro _
 refine Wk.cond rfl (fun hc=>?_) (fun hc=>?_)
 ·have hne:¬ DqE d=0:=by simpa using hc
  repeat first|refine go ?_|with_reducible intro _
  refine Wk.ret ⟨_,Rs.tmp rfl (Rs.tmp rfl Rs.nil),_,Sub.none _,⟨false,rfl,by simp only [Bool.false_eq_true,false_iff,not_and];exact fun q=>absurd q hne⟩,rfl⟩
 have he:DqE d=0:=by simpa using hc
 have ok:=DqE_zero he
 have l1:=ok.lim.1
 have l2:=ok.lim.2.1
 clear hc hD hE
 replace so:=so.mono hz1
 replace st:=st.mono hz1
 replace s1:=s1.mono hz1
 replace s2:=s2.mono hz1
 replace s3:=s3.mono fun u l h=>h.mono hz1
 replace s4:=s4.mono hz1
 rw [he]
 repeat first|refine go ?_|with_reducible intro _
 refine Wk.caser 23 rfl (fun hc=>?_) (fun hc=>?_)
 ·have hne:¬ e.ow.length=d.owner.length:=fun q=>by simp [q] at hc
  repeat first|refine go ?_|with_reducible intro _
  refine Wk.ret ⟨_,Rs.tmp rfl (Rs.tmp rfl Rs.nil),_,Sub.none _,⟨false,rfl,by simp only [Bool.false_eq_true,false_iff,not_and];exact fun _ t=>hne t.l1⟩,rfl⟩
 have t1:e.ow.length=d.owner.length:=by simp at hc;omega
 clear hc
 repeat first|refine go ?_|with_reducible intro _
 refine Wk.cond rfl (fun hc=>?_) (fun hc=>?_)
 ·have hne:¬ e.th.length=d.thieves.length:=fun q=>by simp [q] at hc
  repeat first|refine go ?_|with_reducible intro _
  refine Wk.ret ⟨_,Rs.tmp rfl (Rs.tmp rfl Rs.nil),_,Sub.none _,⟨false,rfl,by simp only [Bool.false_eq_true,false_iff,not_and];exact fun _ t=>hne t.l2⟩,rfl⟩
 have t2:e.th.length=d.thieves.length:=by simp at hc;omega
 clear hc
 repeat first|refine go ?_|with_reducible intro _
 rename_i b7
 refine Wk.call rfl rfl (Spl.none _) (cloneIo st (by omega) (ok_nums _)) rfl rfl rfl ?_
 rintro v39 Z' A' hz ⟨rfl,rfl⟩
 refine Wk.dropr (B:=ol 1 v39 _ _::_) (Sub.refl _) ?_
 refine Wk.knowr .head (fun s h=>ol.form (v:=v39) h) ?_
 rintro ⟨a39,c39,rfl⟩
 repeat first|refine go ?_|with_reducible intro _
 refine Wk.olNil 1 ?_
 refine Wk.loop (fun mm L Z' A'=>∃ (j:Nat) (vw:Value) (ws:List Value) (ths:List Int),j≤e.th.length∧mm=e.th.length - j∧Ext Z1 Z'∧ths.length=d.thieves.length∧(∀ i (h:i < ths.length),ths[i]=if i < j then (((e.kp.th.getD i []).length:Nat):Int) else d.thieves.getD i 0)∧All2 (fun u l=>Sl Z' 1 u l.length (nums l)) ws (e.kp.th.take j)∧(∀ i,i < j→∀ (h:i < d.thieves.length) (k:i < e.th.length),(e.th[i].length:Int)=d.thieves[i])∧A'=[ol 1 vw j ws,ol 1 (.slice a39 d.thieves.length c39) d.thieves.length (nums ths),pt b7 (.cells [.slice a1 e.ow.length cw1,vw,.slice a3 e.lf.length c3] true 0),pt b3 (.cells [.slice a1 e.ow.length cw1,.slice a2 e.th.length c2,.slice a3 e.lf.length c3] true 0),pt b2 (.cells [.int .i64 d.size,.int .i64 d.room,.bool d.fence,.slice p1 d.owner.length p2,.slice a39 d.thieves.length c39] true 0)]∧Kp L [(2,.pointer (some ⟨b2,0,none⟩)),(3,.pointer (some ⟨b3,0,none⟩)),(7,.pointer (some ⟨b7,0,none⟩)),(8,.func (.func 71) #[] #[]),(42,.slice a2 e.th.length c2),(43,.int .i64 e.th.length),(44,.int .i64 j)]) e.th.length ⟨0,.slice none 0 0,[],d.thieves,Nat.zero_le _,rfl,Ext.refl _,rfl,fun i h=>by simp [h],by simp;exact .nil,fun i hi=>by omega,rfl,(by repeat (first|exact trivial|refine And.intro rfl ?_|refine And.intro (kpI rfl (by omega)) ?_))⟩ ?_
 rintro mm L Z2 A' - ⟨j,vw,ws,ths,hj,rfl,x2,hl,hths,hws,h3,rfl,hk⟩
 refine Wk.kp hk ?_
 clear hk
 first|refine Wk.knowr (by repeat (first|exact Rem.head|apply Rem.tail)) (fun s h=>ol.form (v:=vw) h) ?_|refine Wk.know (by repeat (first|exact Rem.head|apply Rem.tail)) (fun s h=>ol.form (v:=vw) h) ?_
 rintro ⟨aw,cw,rfl⟩
 have hekl:e.kp.th.length=e.th.length:=by simp [De.kp]
 repeat first|refine go ?_|with_reducible intro _
 refine Wk.cond rfl (fun hc=>?_) (fun hc=>?_)
 ·have hlt:j < e.th.length:=by simp at hc;omega
  have hlo:j < d.thieves.length:=by omega
  clear hc
  obtain ⟨au,cu,gu,su⟩:=row_get s3 hlt
  replace su:=su.mono x2
  have s2':=s2.mono x2
  have wj:=sm2.2 _ (List.getElem_mem hlt)
  have ekj:e.kp.th.getD j []=keptL e.th[j]:=by simp [De.kp,hlt]
  have ej:ths[j]=d.thieves[j]:=by rw [hths j (by omega),if_neg (by omega)];simp [hlo]
  refine Wk.olOpen (sz:=1) (v:=.slice a39 d.thieves.length c39) (.tail .head) (by omega) fun bT=>?_
  refine Wk.know .head (fun s h=>olp.form h) ?_
  rintro ⟨cT,heq,-⟩
  cases heq
  repeat first|refine go ?_|with_reducible intro _
  refine Wk.iaV j rfl rfl rfl rfl rfl rfl rfl hlo ?_
  refine Wk.loadOlp (cs:=[_]) rfl rfl (by repeat (first|exact Rem.head|apply Rem.tail)) (nums_get (i:=j) (by omega) (by omega)) rfl rfl rfl ?_
  rw [ej]
  repeat first|refine go ?_|with_reducible intro _
  refine Wk.cond rfl (fun hc=>?_) (fun hc=>?_)
  ·have c1:¬ (e.th[j].length:Int)=d.thieves[j]:=by simpa using hc
   repeat first|refine go ?_|with_reducible intro _
   refine Wk.ret ⟨_,Rs.tmp rfl (Rs.tmp rfl Rs.nil),_,Sub.none _,⟨false,rfl,by simp only [Bool.false_eq_true,false_iff,not_and];exact fun _ t=>c1 (t.l3 j hlo hlt)⟩,rfl⟩
  have c1:(e.th[j].length:Int)=d.thieves[j]:=by simpa using hc
  clear hc
  repeat first|refine go ?_|with_reducible intro _
  refine Wk.drawr (ms:=[0,1,0,4,0,28,60,127,255,511]) (l:=[0,1,2,4,3,5,6,7,8,9]) (by kernel_rfl) (by kernel_rfl) (by kernel_rfl) rfl ?_
  repeat first|refine go ?_|with_reducible intro _
  refine Wk.callD rfl rfl (Spl.none _) (cloneIo su wj (ok_nums _)) rfl rfl fun v60 Z' A' hz hq=>?_
  obtain ⟨rfl,rfl⟩:=hq
  refine ⟨?_,?_⟩
  ·(repeat (first|exact PnAll.done|refine PnAll.two ?_|refine PnAll.skip rfl ?_|refine PnAll.keep (Rd.loadL rfl rfl (by first|exact Or.inl (by assumption)|(refine Or.inr ?_;repeat (first|exact List.Mem.head _|refine List.Mem.tail _ ?_))) rfl rfl) (by first|exact veq_slice _ _ _|exact veq_int _ _|exact Sl.veq (by assumption)|simp [veq,veqL,veq1,ba_self]) ?_|refine PnAll.keep (by apply Rd.loadP (o:=0);exact rfl;exact rfl;(first|assumption|(refine Pz.mono ?_ (by assumption);assumption));exact rfl;exact rfl) (by first|exact veq_slice _ _ _|exact veq_int _ _|exact Sl.veq (by assumption)|simp [veq,veqL,veq1,ba_self]) ?_))
  refine Wk.dropr (B:=ol 1 v60 _ _::_) (Sub.refl _) ?_
  refine Wk.callD rfl rfl (.l (Spl.none _)) (delOl (fun x=>x=-1) wj fun x hx=>isLost_) rfl rfl fun v62 Z' A' hz hq=>?_
  obtain ⟨rfl,rfl⟩:=hq
  refine ⟨?_,?_⟩
  ·(repeat (first|exact PnAll.done|refine PnAll.two ?_|refine PnAll.skip rfl ?_|refine PnAll.keep (Rd.loadL rfl rfl (by first|exact Or.inl (by assumption)|(refine Or.inr ?_;repeat (first|exact List.Mem.head _|refine List.Mem.tail _ ?_))) rfl rfl) (by first|exact veq_slice _ _ _|exact veq_int _ _|exact Sl.veq (by assumption)|simp [veq,veqL,veq1,ba_self]) ?_|refine PnAll.keep (by apply Rd.loadP (o:=0);exact rfl;exact rfl;(first|assumption|(refine Pz.mono ?_ (by assumption);assumption));exact rfl;exact rfl) (by first|exact veq_slice _ _ _|exact veq_int _ _|exact Sl.veq (by assumption)|simp [veq,veqL,veq1,ba_self]) ?_))
  rw [flt_kept]
  refine Wk.dropr (B:=ol 1 v62 _ _::_) (Sub.refl _) ?_
  first|apply Wk.olFreezer (v:=v62)|apply Wk.olFreeze (v:=v62)
  case p=>repeat (first|exact Rem.head|apply Rem.tail)
  intro Z3 x3 h62
  obtain ⟨a62,c62,rfl⟩:=h62.form
  refine Wk.bs (cs:=[.slice a62 (keptL e.th[j]).length c62]) rfl rfl rfl rfl rfl rfl rfl fun b63=>?_
  refine Wk.appendD (kk:=1) (new:=[.slice a62 (keptL e.th[j]).length c62]) rfl rfl rfl rfl rfl rfl rfl rfl (.tail (.tail .head)) (Src.lit (by first|exact Or.inl (by assumption)|(refine Or.inr ?_;repeat (first|exact List.Mem.head _|refine List.Mem.tail _ ?_))) rfl) rfl rfl rfl (by omega) (by omega) rfl rfl fun v64=>⟨?_,?_⟩
  ·(repeat (first|exact PnAll.done|refine PnAll.two ?_|refine PnAll.skip rfl ?_|refine PnAll.keep (Rd.loadL rfl rfl (by first|exact Or.inl (by assumption)|(refine Or.inr ?_;repeat (first|exact List.Mem.head _|refine List.Mem.tail _ ?_))) rfl rfl) (by first|exact veq_slice _ _ _|exact veq_int _ _|exact Sl.veq (by assumption)|simp [veq,veqL,veq1,ba_self]) ?_|refine PnAll.keep (by apply Rd.loadP (o:=0);exact rfl;exact rfl;(first|assumption|(refine Pz.mono ?_ (by assumption);assumption));exact rfl;exact rfl) (by first|exact veq_slice _ _ _|exact veq_int _ _|exact Sl.veq (by assumption)|simp [veq,veqL,veq1,ba_self]) ?_))
  refine Wk.dropr (.keep (.drop (Sub.refl _))) ?_
  refine Wk.knowr .head (fun s h=>ol.form (v:=v64) h) ?_
  rintro ⟨a64,c64,rfl⟩
  repeat first|refine go ?_|with_reducible intro _
  refine Wk.store rfl rfl rfl rfl rfl (by repeat (first|exact Upd.head|apply Upd.tail)) rfl (by kernel_rfl) rfl ?_
  repeat first|refine go ?_|with_reducible intro _
  refine Wk.drawr (ms:=[0,1,0,0,8,0,56,120,248,511,1023]) (l:=[0,1,2,3,4,5,6,7,8,9,10]) (by kernel_rfl) (by kernel_rfl) (by kernel_rfl) rfl ?_
  refine Wk.olOpenr (sz:=1) (v:=.slice a64 (j+1) c64) .head (by omega) fun bw=>?_
  refine Wk.knowr .head (fun s h=>olp.form h) ?_
  rintro ⟨cW,heq,-⟩
  cases heq
  have hwl:ws.length=j:=by have:=hws.length;simp [hekl] at this;omega
  repeat first|refine go ?_|with_reducible intro _
  refine Wk.iaV j rfl rfl rfl rfl rfl rfl rfl (by omega) ?_
  refine Wk.loadOlp (b:=bw) (cs:=[.slice a62 (keptL e.th[j]).length c62]) rfl rfl (by repeat (first|exact Rem.head|apply Rem.tail)) (getCells_one (by rw [Nat.zero_add,Nat.mul_one,List.getElem?_append_right (by omega),hwl,Nat.sub_self];rfl)) rfl rfl rfl ?_
  repeat first|refine go ?_|with_reducible intro _
  refine Wk.iaV j rfl rfl rfl rfl rfl rfl rfl hlo ?_
  refine Wk.storeOlp (b:=bT) rfl rfl rfl rfl rfl (by repeat (first|exact Rem.head|apply Rem.tail)) (nums_set (i:=j) (by omega) (by omega)) (by kernel_rfl) rfl ?_
  refine Wk.olShutr (b:=bT) .head ?_
  refine Wk.olShutr (b:=bw) (.tail .head) ?_
  repeat first|refine go ?_|with_reducible intro _
  refine Wk.inv ⟨_,by omega,j+1,_,_,ths.set j (keptL e.th[j]).length,hlt,rfl,x2.trans x3,by simpa using hl,fun i h=>?_,?_,upTo h3 fun _ _=>c1,rfl,(by repeat (first|exact trivial|refine And.intro rfl ?_|refine And.intro (kpI rfl (by omega)) ?_))⟩
  ·rw [List.getElem_set]
   have hi:i < ths.length:=by simpa using h
   by_cases q:j=i
   ·subst q;rw [if_pos rfl,if_pos (by omega),ekj]
   ·rw [if_neg q,hths i hi]
    by_cases q2:i < j
    ·rw [if_pos q2,if_pos (by omega)]
    ·rw [if_neg q2,if_neg (by omega)]
  ·have e9:e.kp.th.take (j+1)=e.kp.th.take j++[keptL e.th[j]]:=by rw [List.take_succ_eq_append_getElem (by omega)];simp [De.kp]
   rw [e9]
   exact (hws.mono fun u l h=>h.mono x3).snoc h62
 have hjn:j=e.th.length:=by simp at hc;omega
 subst hjn
 clear hc hj
 have t3:∀ i (h:i < d.thieves.length) (k:i < e.th.length),(e.th[i].length:Int)=d.thieves[i]:=fun i h k=>h3 i k h k
 have okp:=kp_ok ok t2 t3
 have ethk:(d.kp e).thieves=ths:=by
  apply List.ext_getElem
  ·simp [Dq.kp,hl,t2]
  ·intro i h1 h2
   rw [hths i h2,if_pos (by omega)]
   have:i < e.th.length:=by omega
   simp [Dq.kp,De.kp,this]
 rw [←hekl,List.take_length] at hws
 first|apply Wk.olFreezer (v:=.slice aw e.th.length cw)|apply Wk.olFreeze (v:=.slice aw e.th.length cw)
 case p=>repeat (first|exact Rem.head|apply Rem.tail)
 intro Z3 x3 hW
 first|apply Wk.olFreezer (v:=.slice a39 d.thieves.length c39)|apply Wk.olFreeze (v:=.slice a39 d.thieves.length c39)
 case p=>repeat (first|exact Rem.head|apply Rem.tail)
 intro Z4 x4 hT
 replace so:=((so.mono x2).mono x3).mono x4
 replace s1:=((s1.mono x2).mono x3).mono x4
 replace s4:=((s4.mono x2).mono x3).mono x4
 replace hW:=hW.mono x4
 replace hws:=(hws.mono fun u l h=>h.mono x3).mono fun u l h=>h.mono x4
 have e0:d.thieves.length=(d.kp e).thieves.length:=by rw [ethk,hl]
 have stk:Sl Z4 1 (.slice a39 (d.kp e).thieves.length c39) (d.kp e).thieves.length (nums (d.kp e).thieves):=by rw [←e0,ethk];exact hT
 have sme:e.kp.Sm:=⟨sm1,⟨by rw [hekl];exact sm2.1,fun l hl=>by
  obtain ⟨l0,h0,rfl⟩:=List.mem_map.1 hl
  have:=keptL_len l0
  have:=sm2.2 l0 h0
  omega⟩,sm.lf⟩
 have w1:(e.kp.ow.length:Int)=(d.kp e).many 0:=by simp [Dq.many,Dq.kp,De.kp,t1]
 have w2:e.kp.th.length=(d.kp e).thieves.length:=by rw [hekl,t2,e0]
 have w3:∀ k (hk:k < e.kp.th.length),(e.kp.th[k].length:Int)=(d.kp e).many (k+1):=fun k hk=>by
  have:k < e.th.length:=by omega
  simp [Dq.many,Dq.kp,De.kp,this]
 have zsum:∀ n,sumL (List.replicate n 0)=0:=fun n=>by
  induction n with
  | zero=>rfl
  | succ n ih=>rw [List.replicate_succ,sumL,ih];rfl
 have heK:DeR Z4 [.slice a1 e.ow.length cw1,.slice aw e.th.length cw,.slice a3 e.lf.length c3] e.kp:=⟨_,_,_,ws,rfl,s1,⟨by rw [hekl];exact hW,hws⟩,s4⟩
 have hNL:=newLine_ (d:=d.kp e) (p1:=p1) (p2:=p2) stk (by omega)
 rw [←e0] at hNL
 repeat first|refine go ?_|with_reducible intro _
 refine Wk.drawr (ms:=[0,1,0,0,15,31,63]) (l:=[0,2,3,1,4,5,6]) (by kernel_rfl) (by kernel_rfl) (by kernel_rfl) rfl ?_
 repeat first|refine go ?_|with_reducible intro _
 refine Wk.mkm rfl rfl rfl fun bm=>?_
 refine Wk.callD rfl rfl (Spl.none _) hNL rfl rfl fun v' Z' A' hz hq=>?_
 obtain ⟨rfl,b',bd,vt,rfl,rfl⟩:=hq
 refine ⟨?_,?_⟩
 ·(repeat (first|exact PnAll.done|refine PnAll.two ?_|refine PnAll.skip rfl ?_|refine PnAll.keep (Rd.loadL rfl rfl (by first|exact Or.inl (by assumption)|(refine Or.inr ?_;repeat (first|exact List.Mem.head _|refine List.Mem.tail _ ?_))) rfl rfl) (by first|exact veq_slice _ _ _|exact veq_int _ _|exact Sl.veq (by assumption)|simp [veq,veqL,veq1,ba_self]) ?_|refine PnAll.keep (by apply Rd.loadP (o:=0);exact rfl;exact rfl;(first|assumption|(refine Pz.mono ?_ (by assumption);assumption));exact rfl;exact rfl) (by first|exact veq_slice _ _ _|exact veq_int _ _|exact Sl.veq (by assumption)|simp [veq,veqL,veq1,ba_self]) ?_))
 refine Wk.lnFreezer (d:=d.kp e) (x:=Ln.z (d.kp e)) (Ln.Inv.z okp).ok.tl fun Z5 x5 hF=>?_
 refine Wk.callD rfl rfl (.l (Spl.none _)) (explained_ okp sme w1 w2 w3 40 (by have:=zsum ((d.kp e).thieves.length+1);show (40:Int)≤40+sumL (List.replicate _ 0);omega) hF (Ln.Inv.z okp) (so.mono x5) (stk.mono x5) (heK.mono x5) (K:=[]) (fun k hk=>by simp at hk) (by simp)) rfl rfl fun v' Z6 A' hz6 hq=>?_
 obtain ⟨r,N,rfl,hr,rfl,-,-⟩:=hq
 refine ⟨?_,?_⟩
 ·(repeat (first|exact PnAll.done|refine PnAll.two ?_|refine PnAll.skip rfl ?_|refine PnAll.keep (Rd.loadL rfl rfl (by first|exact Or.inl (by assumption)|(refine Or.inr ?_;repeat (first|exact List.Mem.head _|refine List.Mem.tail _ ?_))) rfl rfl) (by first|exact veq_slice _ _ _|exact veq_int _ _|exact Sl.veq (by assumption)|simp [veq,veqL,veq1,ba_self]) ?_|refine PnAll.keep (by apply Rd.loadP (o:=0);exact rfl;exact rfl;(first|assumption|(refine Pz.mono ?_ (by assumption);assumption));exact rfl;exact rfl) (by first|exact veq_slice _ _ _|exact veq_int _ _|exact Sl.veq (by assumption)|simp [veq,veqL,veq1,ba_self]) ?_))
 repeat first|refine go ?_|with_reducible intro _
 refine Wk.ret ⟨_,Rs.tmp rfl (Rs.tmp rfl Rs.nil),_,Sub.none _,⟨r,rfl,by rw [hr];exact ⟨fun q=>⟨rfl,⟨t1,t2,t3,q⟩⟩,fun q=>q.2.ex⟩⟩,rfl⟩
end Go.Proofs.J
namespace Go.Proofs.J
open Go.Ev Go
end Go.Proofs.J
namespace Go.Proofs.J
open Go.Ev Go
end Go.Proofs.J
namespace Go.Proofs.J
open Go.Ev Go
end Go.Proofs.J
namespace Go.Proofs.J
open Go.Ev Go
end Go.Proofs.J
namespace Go.Proofs.J
open Go.Ev Go
structure ThE (e:De):Prop where
 ow:e.ow.length≤12
 th:e.th.length≤6
 lf:e.lf.length≤12
 row:∀ i (h:i < e.th.length),e.th[i].length≤12
theorem ThE.rows {e:De} (h:ThE e):∀ l∈e.th,l.length≤1000:=fun l hl=>by
 obtain ⟨i,hi,rfl⟩:=List.getElem_of_mem hl
 have:=h.row i hi;omega
theorem ThE.Sm {e:De} (h:ThE e):e.Sm:=⟨by have:=h.ow;omega,⟨by have:=h.th;omega,fun l hl=>by have:=h.rows l hl;omega⟩,by have:=h.lf;omega⟩
end Go.Proofs.J
namespace Go.Proofs.J
open Go.Ev Go
theorem copyEnd {Z:Zone} {ct:List Value} {e:De} (k:DeR Z ct e) (hth:e.th.length≤1000) (how:e.ow.length≤1000) (hlf:e.lf.length≤1000) (hrow:∀ l∈e.th,l.length≤1000) :
  Cz M (.func (.func 30) #[] #[]) [.agg ⟨ct⟩] Z [] (fun v' Z' A'=>(∃ ct',v'=.agg ⟨ct'⟩∧DeR Z' ct' e)∧A'=[]):=by
 obtain ⟨a1,cw1,a2,c2,a3,c3,us,rfl,s1,s2,s3,s4⟩:=k.form
 clear k
 refine Cz.fn (f:=Tryz.f30) (by kernel_rfl) rfl rfl rfl _ rfl ?_
 repeat first|refine go ?_|with_reducible intro _
 rename_i b1 b2
 refine Wk.drawr (ms:=[0,0,2,7,0,0,32,127,255,0,1023]) (l:=[0,1,2,4,5,6,9,3,7,8,10]) (by kernel_rfl) (by kernel_rfl) (by kernel_rfl) rfl ?_
 repeat first|refine go ?_|with_reducible intro _
 refine Wk.bs rfl rfl rfl rfl rfl rfl rfl fun b5=>?_
 repeat first|refine go ?_|with_reducible intro _
 refine Wk.bs rfl rfl rfl rfl rfl rfl rfl fun b9=>?_
 repeat first|refine go ?_|with_reducible intro _
 rename_i b3
 refine Wk.alterr (x:=pt b5 _) (C:=[ol 1 (.slice (some ⟨b5,0,none⟩) 0 0) 0 []]) (by repeat (first|exact Rem.head|apply Rem.tail)) (fun s h=>ol_of_pt (m:=0) (vs:=[]) (g:=0) rfl (.inl rfl) rfl h) ?_
 refine Wk.appendD rfl rfl rfl rfl rfl rfl rfl rfl Rem.head (Src.sl s1) rfl (ok_nums _) (by simp) (by omega) (by omega) rfl rfl fun v8=>⟨?_,?_⟩
 ·(repeat (first|exact PnAll.done|refine PnAll.two ?_|refine PnAll.skip rfl ?_|refine PnAll.keep (Rd.loadL rfl rfl (by first|exact Or.inl (by assumption)|(refine Or.inr ?_;repeat (first|exact List.Mem.head _|refine List.Mem.tail _ ?_))) rfl rfl) (by first|exact veq_slice _ _ _|exact veq_int _ _|exact Sl.veq (by assumption)|simp [veq,veqL,veq1]) ?_|refine PnAll.keep (by apply Rd.loadP (o:=0);exact rfl;exact rfl;(first|assumption|(refine Pz.mono ?_ (by assumption);assumption));exact rfl;exact rfl) (by first|exact veq_slice _ _ _|exact veq_int _ _|exact Sl.veq (by assumption)|simp [veq,veqL,veq1]) ?_))
 first|apply Wk.olFreezer (v:=v8)|apply Wk.olFreeze (v:=v8)
 case p=>repeat (first|exact Rem.head|apply Rem.tail)
 intro Z1 e1 h8
 have h8':Sl Z1 1 v8 e.ow.length (nums e.ow):=by simpa using h8
 obtain ⟨a8,c8,rfl⟩:=h8'.form
 clear h8
 have s4':=s4.mono e1
 repeat first|refine go ?_|with_reducible intro _
 refine Wk.alterr (x:=pt b9 _) (C:=[ol 1 (.slice (some ⟨b9,0,none⟩) 0 0) 0 []]) (by repeat (first|exact Rem.head|apply Rem.tail)) (fun s h=>ol_of_pt (m:=0) (vs:=[]) (g:=0) rfl (.inl rfl) rfl h) ?_
 refine Wk.appendD rfl rfl rfl rfl rfl rfl rfl rfl Rem.head (Src.sl s4') rfl (ok_nums _) (by simp) (by omega) (by omega) rfl rfl fun v12=>⟨?_,?_⟩
 ·(repeat (first|exact PnAll.done|refine PnAll.two ?_|refine PnAll.skip rfl ?_|refine PnAll.keep (Rd.loadL rfl rfl (by first|exact Or.inl (by assumption)|(refine Or.inr ?_;repeat (first|exact List.Mem.head _|refine List.Mem.tail _ ?_))) rfl rfl) (by first|exact veq_slice _ _ _|exact veq_int _ _|exact Sl.veq (by assumption)|simp [veq,veqL,veq1]) ?_|refine PnAll.keep (by apply Rd.loadP (o:=0);exact rfl;exact rfl;(first|assumption|(refine Pz.mono ?_ (by assumption);assumption));exact rfl;exact rfl) (by first|exact veq_slice _ _ _|exact veq_int _ _|exact Sl.veq (by assumption)|simp [veq,veqL,veq1]) ?_))
 first|apply Wk.olFreezer (v:=v12)|apply Wk.olFreeze (v:=v12)
 case p=>repeat (first|exact Rem.head|apply Rem.tail)
 intro Z2 e2 h12
 have h12':Sl Z2 1 v12 e.lf.length (nums e.lf):=by simpa using h12
 obtain ⟨a12,c12,rfl⟩:=h12'.form
 clear h12
 replace h8':=h8'.mono e2
 repeat first|refine go ?_|with_reducible intro _
 refine Wk.store rfl rfl rfl rfl rfl (by repeat (first|exact Upd.head|apply Upd.tail)) rfl (by kernel_rfl) rfl ?_
 repeat first|refine go ?_|with_reducible intro _
 replace s2:=(s2.mono e1).mono e2
 replace s3:=(s3.mono fun u l h=>h.mono e1).mono fun u l h=>h.mono e2
 refine Wk.olNil 1 ?_
 refine Wk.loop (fun mm L Z' A'=>∃ (j:Nat) (vw:Value) (ws:List Value),j≤e.th.length∧mm=e.th.length - j∧Ext Z2 Z'∧All2 (fun u l=>Sl Z' 1 u l.length (nums l)) ws (e.th.take j)∧A'=[ol 1 vw j ws,pt b3 (.cells [.slice a8 e.ow.length c8,vw,.slice a12 e.lf.length c12] true 0),pt b2 (.cells [.slice none 0 0,.slice none 0 0,.slice none 0 0] true 0),pt b1 (.cells [.slice a1 e.ow.length cw1,.slice a2 e.th.length c2,.slice a3 e.lf.length c3] true 0)]∧Kp L [(1,.pointer (some ⟨b1,0,none⟩)),(2,.pointer (some ⟨b2,0,none⟩)),(3,.pointer (some ⟨b3,0,none⟩)),(4,.int .i64 j)]) e.th.length ⟨0,.slice none 0 0,[],Nat.zero_le _,rfl,Ext.refl _,by simp;exact .nil,rfl,(by repeat (first|exact trivial|refine And.intro rfl ?_|refine And.intro (kpI rfl (by omega)) ?_))⟩ ?_
 rintro mm L Z3 A' - ⟨j,vw,ws,hj,rfl,x1,hws,rfl,hk⟩
 refine Wk.kp hk ?_
 clear hk
 refine Wk.know .head (fun s h=>ol.form (v:=vw) h) ?_
 rintro ⟨aw,cw,rfl⟩
 repeat first|refine go ?_|with_reducible intro _
 refine Wk.cond rfl (fun hc=>?_) (fun hc=>?_)
 ·have hlt:j < e.th.length:=by simp at hc;omega
  clear hc
  obtain ⟨au,cu,gu,su⟩:=row_get s3 hlt
  replace su:=su.mono x1
  have s2':=s2.mono x1
  have wj:=hrow _ (List.getElem_mem hlt)
  have hwl:ws.length=j:=by have:=hws.length;simp at this;omega
  repeat first|refine go ?_|with_reducible intro _
  refine Wk.drawr (ms:=[0,1,0,0,8,0,56,120,252,508,1023,2047,4095]) (l:=[0,1,2,3,4,5,6,7,8,9,10,11,12]) (by kernel_rfl) (by kernel_rfl) (by kernel_rfl) rfl ?_
  repeat first|refine go ?_|with_reducible intro _
  refine Wk.bs rfl rfl rfl rfl rfl rfl rfl fun b23=>?_
  repeat first|refine go ?_|with_reducible intro _
  refine Wk.alterr (x:=pt b23 _) (C:=[ol 1 (.slice (some ⟨b23,0,none⟩) 0 0) 0 []]) (by repeat (first|exact Rem.head|apply Rem.tail)) (fun s h=>ol_of_pt (m:=0) (vs:=[]) (g:=0) rfl (.inl rfl) rfl h) ?_
  refine Wk.appendD rfl rfl rfl rfl rfl rfl rfl rfl Rem.head (Src.sl su) rfl (ok_nums _) (by simp) (by omega) (by omega) rfl rfl fun v29=>⟨?_,?_⟩
  ·(repeat (first|exact PnAll.done|refine PnAll.two ?_|refine PnAll.skip rfl ?_|refine PnAll.keep (Rd.loadL rfl rfl (by first|exact Or.inl (by assumption)|(refine Or.inr ?_;repeat (first|exact List.Mem.head _|refine List.Mem.tail _ ?_))) rfl rfl) (by first|exact veq_slice _ _ _|exact veq_int _ _|exact Sl.veq (by assumption)|simp [veq,veqL,veq1,ba_self]) ?_|refine PnAll.keep (by apply Rd.loadP (o:=0);exact rfl;exact rfl;(first|assumption|(refine Pz.mono ?_ (by assumption);assumption));exact rfl;exact rfl) (by first|exact veq_slice _ _ _|exact veq_int _ _|exact Sl.veq (by assumption)|simp [veq,veqL,veq1,ba_self]) ?_))
  first|apply Wk.olFreezer (v:=v29)|apply Wk.olFreeze (v:=v29)
  case p=>repeat (first|exact Rem.head|apply Rem.tail)
  intro Z4 x4 h29
  have h29':Sl Z4 1 v29 e.th[j].length (nums e.th[j]):=by simpa using h29
  obtain ⟨a29,c29,rfl⟩:=h29'.form
  clear h29
  refine Wk.bs (cs:=[.slice a29 e.th[j].length c29]) rfl rfl rfl rfl rfl rfl rfl fun b30=>?_
  refine Wk.appendD (kk:=1) (new:=[.slice a29 e.th[j].length c29]) rfl rfl rfl rfl rfl rfl rfl rfl (.tail .head) (Src.lit (by first|exact Or.inl (by assumption)|(refine Or.inr ?_;repeat (first|exact List.Mem.head _|refine List.Mem.tail _ ?_))) rfl) rfl rfl rfl (by omega) (by omega) rfl rfl fun v31=>⟨?_,?_⟩
  ·(repeat (first|exact PnAll.done|refine PnAll.two ?_|refine PnAll.skip rfl ?_|refine PnAll.keep (Rd.loadL rfl rfl (by first|exact Or.inl (by assumption)|(refine Or.inr ?_;repeat (first|exact List.Mem.head _|refine List.Mem.tail _ ?_))) rfl rfl) (by first|exact veq_slice _ _ _|exact veq_int _ _|exact Sl.veq (by assumption)|simp [veq,veqL,veq1,ba_self]) ?_|refine PnAll.keep (by apply Rd.loadP (o:=0);exact rfl;exact rfl;(first|assumption|(refine Pz.mono ?_ (by assumption);assumption));exact rfl;exact rfl) (by first|exact veq_slice _ _ _|exact veq_int _ _|exact Sl.veq (by assumption)|simp [veq,veqL,veq1,ba_self]) ?_))
  refine Wk.dropr (.keep (.drop (Sub.refl _))) ?_
  refine Wk.knowr .head (fun s h=>ol.form (v:=v31) h) ?_
  rintro ⟨a31,c31,rfl⟩
  repeat first|refine go ?_|with_reducible intro _
  refine Wk.store rfl rfl rfl rfl rfl (by repeat (first|exact Upd.head|apply Upd.tail)) rfl (by kernel_rfl) rfl ?_
  repeat first|refine go ?_|with_reducible intro _
  refine Wk.inv ⟨_,by omega,j+1,.slice a31 (j+1) c31,ws++[.slice a29 e.th[j].length c29],hlt,rfl,x1.trans x4,?_,rfl,(by repeat (first|exact trivial|refine And.intro rfl ?_|refine And.intro (kpI rfl (by omega)) ?_))⟩
  rw [List.take_succ_eq_append_getElem hlt]
  exact (hws.mono fun u l h=>h.mono x4).snoc h29'
 have hje:j=e.th.length:=by simp at hc;omega
 subst hje
 clear hc hj
 rw [List.take_length] at hws
 first|apply Wk.olFreezer (v:=(.slice aw e.th.length cw))|apply Wk.olFreeze (v:=(.slice aw e.th.length cw))
 case p=>repeat (first|exact Rem.head|apply Rem.tail)
 intro Z4 x4 hw
 repeat first|refine go ?_|with_reducible intro _
 refine Wk.ret ⟨_,Rs.cell rfl rfl (by first|exact Or.inl (by assumption)|(refine Or.inr ?_;repeat (first|exact List.Mem.head _|refine List.Mem.tail _ ?_))) rfl rfl Rs.nil,_,Sub.none _,⟨_,rfl,_,_,_,ws,rfl,(h8'.mono x1).mono x4,⟨hw,hws.mono fun u l h=>h.mono x4⟩,(h12'.mono x1).mono x4⟩,rfl⟩
end Go.Proofs.J
namespace Go.Proofs.J
open Go.Ev Go
end Go.Proofs.J
namespace Go.Proofs.J
open Go Go.Ev
end Go.Proofs.J
