/- SA -/
import Derived.Test.YtegbiibfmabnbaaGreatTab
import Derived.Test.YtegbiibfmabnbaaGreatPL
import Derived.Test.YtegbiibfmabnbaaGreatEvF
import Derived.Sort.Lot0
import Derived.Sort.AssemblyPlain
set_option linter.unusedVariables false
set_option linter.unusedSimpArgs false
set_option maxHeartbeats 4000000
set_option maxRecDepth 10000
namespace Go.Proofs.J
open Go.Ev Go Go.Sort
theorem sNaN {Z:Zone} {x:Int}:Cz M (.func (.func 225) #[] #[]) [.int .i64 x] Z [] (fun v' Z' A'=>v'=.bool false∧Z=Z'∧A'=[]):=by
 refine Cz.fn (f:=Tryz.f225) Ev.cM rfl rfl rfl _ rfl ?_
 repeat first|refine go ?_|with_reducible intro _
 refine Wk.ret ⟨_,Rs.tmp rfl Rs.nil,_,Sub.none _,by simp [outOf],rfl,rfl⟩
theorem sLess {Z:Zone} {x y:Int}:Cz M (.func (.func 193) #[] #[]) [.int .i64 x,.int .i64 y] Z [] (fun v' Z' A'=>v'=.bool (ltInt x y)∧Z=Z'∧A'=[]):=by
 refine Cz.fn (f:=Tryz.f193) Ev.cM rfl rfl rfl _ rfl ?_
 repeat first|refine go ?_|with_reducible intro _
 refine Wk.call rfl rfl (Spl.none _) (sNaN) rfl rfl rfl ?_
 rintro v' Z' A' hz ⟨rfl,rfl,rfl⟩
 repeat first|refine go ?_|with_reducible intro _
 refine Wk.ret ⟨_,Rs.tmp rfl Rs.nil,_,Sub.none _,by simp [outOf,ltInt],rfl,rfl⟩
theorem insertion {Z:Zone} {v:Value} {b0 n a b:Nat} {d:Array Int} (hn:d.size=n) (hb:b≤n) (hs:n≤1000000) (ha:a≤n) :
  Cz M (.func (.func 187) #[] #[]) [v,.int .i64 a,.int .i64 b] Z [olp b0 1 v n (ic d)] (fun v' Z' A'=>Z=Z'∧A'=[olp b0 1 v n (ic (insertionSort ltInt d a b))]):=by
 refine Cz.fn (f:=Tryz.f187) Ev.cM rfl rfl rfl _ rfl ?_
 repeat first|refine go ?_|with_reducible intro _
 refine Wk.loop (fun mm L Z' A'=>∃ (i:Nat) (e:Array Int),a+1≤i∧i≤n+1∧mm=n+2 - i∧Z=Z'∧A'=[olp b0 1 v n (ic e)]∧e.size=n∧insOuter ltInt a b i e=insertionSort ltInt d a b∧Kp L [(0,v),(1,.int .i64 a),(2,.int .i64 b),(6,.int .i64 i)]) (n+2 - (a+1)) ⟨a+1,d,Nat.le_refl _,by omega,rfl,rfl,rfl,hn,rfl,Ev.kM⟩ ?_
 rintro mm L Z' A' - ⟨i,e,hi,hi2,rfl,rfl,rfl,he,hf,hk⟩
 refine Wk.kp hk ?_
 clear hk
 repeat first|refine go ?_|with_reducible intro _
 refine Wk.cond rfl (fun hc=>?_) (fun hc=>?_)
 ·have hlt:i < b:=by simp at hc;omega
  clear hc
  have hstep:insOuter ltInt a b i e=insOuter ltInt a b (i+1) (insInner ltInt a i e):=by rw [insOuter,if_pos hlt]
  repeat first|refine go ?_|with_reducible intro _
  refine Wk.loop (fun mm L Z' A'=>∃ (j:Nat) (e':Array Int),j≤i∧mm=j∧Z=Z'∧A'=[olp b0 1 v n (ic e')]∧e'.size=n∧insInner ltInt a j e'=insInner ltInt a i e∧Kp L [(0,v),(1,.int .i64 a),(2,.int .i64 b),(6,.int .i64 i),(7,.int .i64 j)]) i ⟨i,e,Nat.le_refl _,rfl,rfl,rfl,he,rfl,Ev.kM⟩ ?_
  rintro mm L Z' A' - ⟨j,e',hj,hmm,rfl,rfl,he',hf',hk⟩
  refine Wk.kp hk ?_
  clear hk
  repeat first|refine go ?_|with_reducible intro _
  refine Wk.drawr (ms:=[0,0,3,7,15,15,63,127,15,15,527,1807,3855,8191,16383]) (l:=[0,1,2,3,4,5,6,7,8,9,10,11,12,13,14]) Ev.cM Ev.cM Ev.cM rfl ?_
  repeat first|refine go ?_|with_reducible intro _
  refine Wk.caser 19 rfl (fun hc=>?_) (fun hc=>?_)
  ·have hja:a < j:=by simp at hc;omega
   clear hc
   obtain ⟨q,rfl⟩:∃ q,j=q+1:=⟨j - 1,by omega⟩
   repeat first|refine go ?_|with_reducible intro _
   refine Wk.iaP (q+1) rfl rfl rfl rfl Ev.rM rfl rfl Ev.wM Ev.wM ?_
   refine Wk.loadOlp (cs:=[_]) rfl rfl Ev.rM (Go.Proofs.J.ic_get Ev.oM) rfl rfl rfl ?_
   repeat first|refine go ?_|with_reducible intro _
   refine Wk.iaP (q) rfl rfl rfl rfl Ev.rM rfl rfl Ev.wM Ev.wM ?_
   refine Wk.loadOlp (cs:=[_]) rfl rfl Ev.rM (Go.Proofs.J.ic_get Ev.oM) rfl rfl rfl ?_
   repeat first|refine go ?_|with_reducible intro _
   refine Wk.call rfl rfl (Spl.none _) (sLess) Ev.cM rfl rfl ?_
   rintro v' Z' A' hz ⟨rfl,rfl,rfl⟩
   repeat first|refine go ?_|with_reducible intro _
   refine Wk.cond rfl (fun hc=>?_) (fun hc=>?_)
   ·have e1:insInner ltInt a (q+1) e'=insInner ltInt a q (swp e' (q+1) q):=by
     rw [insInner,if_pos]
     simp only [Bool.and_eq_true,decide_eq_true_eq]
     exact ⟨hja,hc⟩
    repeat first|refine go ?_|with_reducible intro _
    refine Wk.drawr (ms:=[0,0,0,0,8,0,0,64,224,480,0,0,3072,7168,16355,32739,65535,131071]) (l:=[0,1,2,3,4,5,6,7,8,9,10,11,12,13,14,15,16,17]) Ev.cM Ev.cM Ev.cM rfl ?_
    repeat first|refine go ?_|with_reducible intro _
    refine Wk.iaP (q) rfl rfl rfl rfl Ev.rM rfl rfl Ev.wM Ev.wM ?_
    refine Wk.loadOlp (cs:=[_]) rfl rfl Ev.rM (Go.Proofs.J.ic_get Ev.oM) rfl rfl rfl ?_
    repeat first|refine go ?_|with_reducible intro _
    refine Wk.iaP (q+1) rfl rfl rfl rfl Ev.rM rfl rfl Ev.wM Ev.wM ?_
    refine Wk.loadOlp (cs:=[_]) rfl rfl Ev.rM (Go.Proofs.J.ic_get Ev.oM) rfl rfl rfl ?_
    repeat first|refine go ?_|with_reducible intro _
    refine Wk.iaP (q+1) rfl rfl rfl rfl Ev.rM rfl rfl Ev.wM Ev.wM ?_
    refine Wk.storeOlp rfl rfl rfl rfl rfl Ev.rM (Go.Proofs.J.ic_set Ev.oM) Ev.cM rfl ?_
    refine Wk.iaP (q) rfl rfl rfl rfl Ev.rM rfl rfl Ev.wM Ev.wM ?_
    refine Wk.storeOlp rfl rfl rfl rfl rfl Ev.rM (Go.Proofs.J.ic_set Ev.oM) Ev.cM rfl ?_
    repeat first|refine go ?_|with_reducible intro _
    exact Wk.inv ⟨_,by omega,q,swp e' (q+1) q,by omega,rfl,rfl,rfl,by rw [swp_size];exact he',by rw [←e1];exact hf',Ev.kM⟩
   ·have e1:insInner ltInt a (q+1) e'=e':=by
     rw [insInner,if_neg]
     simp only [Bool.and_eq_true,decide_eq_true_eq]
     rintro ⟨_,hq⟩
     rw [hq] at hc;cases hc
    repeat first|refine go ?_|with_reducible intro _
    exact Wk.inv ⟨_,by omega,i+1,e',by omega,by omega,rfl,rfl,rfl,he',by rw [←hf,hstep,←hf',e1],Ev.kM⟩
  ·have hja:j≤a:=by simp at hc;omega
   clear hc
   have e1:insInner ltInt a j e'=e':=by
    cases j with
    | zero=>rfl
    | succ j =>
     rw [insInner,if_neg]
     simp only [Bool.and_eq_true,decide_eq_true_eq]
     rintro ⟨q,_⟩
     omega
   repeat first|refine go ?_|with_reducible intro _
   exact Wk.inv ⟨_,by omega,i+1,e',by omega,by omega,rfl,rfl,rfl,he',by rw [←hf,hstep,←hf',e1],Ev.kM⟩
 ·have hge:¬ i < b:=by simp at hc;omega
  have e1:insOuter ltInt a b i e=e:=by rw [insOuter,if_neg hge]
  repeat first|refine go ?_|with_reducible intro _
  refine Wk.done ⟨_,Rs.nil,_,Sub.refl _,rfl,by rw [←hf,e1]⟩
theorem and_l {p:Prop} [Decidable p] {b:Bool} (h:p):some (Value.bool b)=some (Value.bool (decide p&&b)):=by simp [h]
theorem and_f {p:Prop} [Decidable p] {b:Bool} (h:¬ p):some (Value.bool false)=some (Value.bool (decide p&&b)):=by simp [h]
theorem siftDown_size:∀ (k hi first root:Nat) (d:Array Int),hi - root≤k→(siftDown ltInt hi first root d).size=d.size:=by
 intro k
 induction k with
 | zero =>
  intro hi first root d h
  rw [siftDown,dif_pos Ev.wM]
 | succ k ih =>
  intro hi first root d h
  rw [siftDown]
  split
  ·rfl
  ·split
   ·split
    ·rfl
    ·split
     ·rw [ih _ _ _ _ Ev.wM,swp_size]
     ·rfl
   ·split
    ·rfl
    ·rw [ih _ _ _ _ Ev.wM,swp_size]
theorem sift {Z:Zone} {v:Value} {b0 n lo hi first:Nat} {d:Array Int} (hn:d.size=n) (hb:first+hi≤n) (hs:n≤1000000) (hl:lo≤n) :
  Cz M (.func (.func 226) #[] #[]) [v,.int .i64 lo,.int .i64 hi,.int .i64 first] Z [olp b0 1 v n (ic d)] (fun v' Z' A'=>Z=Z'∧A'=[olp b0 1 v n (ic (siftDown ltInt hi first lo d))]):=by
 refine Cz.fn (f:=Tryz.f226) Ev.cM rfl rfl rfl _ rfl ?_
 repeat first|refine go ?_|with_reducible intro _
 refine Wk.loop (fun mm L Z' A'=>∃ (i:Nat) (e:Array Int),i≤n∧mm=n - i∧Z=Z'∧A'=[olp b0 1 v n (ic e)]∧e.size=n∧siftDown ltInt hi first i e=siftDown ltInt hi first lo d∧Kp L [(0,v),(2,.int .i64 hi),(3,.int .i64 first),(8,.int .i64 i)]) (n - lo) ⟨lo,d,hl,rfl,rfl,rfl,hn,rfl,Ev.kM⟩ ?_
 rintro mm L Z' A' - ⟨i,e,hi2,rfl,rfl,rfl,he,hf,hk⟩
 refine Wk.kp hk ?_
 clear hk
 repeat first|refine go ?_|with_reducible intro _
 refine Wk.cond rfl (fun hc=>?_) (fun hc=>?_)
 ·have e1:siftDown ltInt hi first i e=e:=by rw [siftDown,dif_pos (by simp at hc;omega)]
  repeat first|refine go ?_|with_reducible intro _
  refine Wk.done ⟨_,Rs.nil,_,Sub.refl _,rfl,by rw [←hf,e1]⟩
 have h1:2*i+1 < hi:=by simp at hc;omega
 clear hc
 rw [siftDown,dif_neg Ev.wM] at hf
 repeat first|refine go ?_|with_reducible intro _
 refine Wk.drawr (ms:=[0,1,0,7,15,31,31,31,223,511,1023,31,31,31,12319,28703,63519,129055,262143,524287]) (l:=[0,1,2,3,4,5,6,7,8,9,10,11,12,13,14,15,16,17,18,19]) Ev.cM Ev.cM Ev.cM rfl ?_
 repeat first|refine go ?_|with_reducible intro _
 refine Wk.cutr (fun L Z' A'=>Z=Z'∧A'=[olp b0 1 v n (ic e)]∧Kp L [(0,v),(2,.int .i64 hi),(3,.int .i64 first),(8,.int .i64 i),(9,.int .i64 (2*i+1:Nat)),(36,.bool (decide (2*i+1+1 < hi)&&ltInt e[first+(2*i+1)]! e[first+(2*i+1)+1]!))]) ?_ ?_
 ·refine Wk.caser 21 rfl (fun hc=>?_) (fun hc=>?_)
  ·have h2:2*i+1+1 < hi:=by simp at hc;omega
   clear hc
   repeat first|refine go ?_|with_reducible intro _
   refine Wk.iaP (first+(2*i+1)) rfl rfl rfl rfl Ev.rM rfl rfl Ev.wM Ev.wM ?_
   refine Wk.loadOlp (cs:=[_]) rfl rfl Ev.rM (Go.Proofs.J.ic_get Ev.oM) rfl rfl rfl ?_
   repeat first|refine go ?_|with_reducible intro _
   refine Wk.iaP (first+(2*i+1)+1) rfl rfl rfl rfl Ev.rM rfl rfl Ev.wM Ev.wM ?_
   refine Wk.loadOlp (cs:=[_]) rfl rfl Ev.rM (Go.Proofs.J.ic_get Ev.oM) rfl rfl rfl ?_
   repeat first|refine go ?_|with_reducible intro _
   refine Wk.call rfl rfl (Spl.none _) (sLess) Ev.cM rfl rfl ?_
   rintro v' Z' A' hz ⟨rfl,rfl,rfl⟩
   repeat first|refine go ?_|with_reducible intro _
   refine Wk.inv ⟨rfl,rfl,rfl,rfl,rfl,rfl,by congr 1,and_l h2,trivial⟩
  ·have h2:¬ 2*i+1+1 < hi:=by simp at hc;omega
   clear hc
   repeat first|refine go ?_|with_reducible intro _
   refine Wk.inv ⟨rfl,rfl,rfl,rfl,rfl,rfl,by congr 1,and_f h2,trivial⟩
 rintro L Z' A' - ⟨rfl,rfl,hk⟩
 refine Wk.kp hk ?_
 clear hk
 refine Wk.cut (fun L Z' A'=>∃ c:Nat,(c=2*i+1∨c=2*i+2)∧c < hi∧Z=Z'∧A'=[olp b0 1 v n (ic e)]∧(if !ltInt e[first+i]! e[first+c]! then e else siftDown ltInt hi first c (swp e (first+i) (first+c)))=siftDown ltInt hi first lo d∧Kp L [(0,v),(2,.int .i64 hi),(3,.int .i64 first),(8,.int .i64 i),(9,.int .i64 c)]) ?_ ?_
 ·refine Wk.cond rfl (fun hc=>?_) (fun hc=>?_)
  ·rw [if_pos hc] at hf
   have h2:2*i+1+1 < hi:=by simp only [Bool.and_eq_true,decide_eq_true_eq] at hc;exact hc.1
   repeat first|refine go ?_|with_reducible intro _
   refine Wk.inv ⟨2*i+2,.inr rfl,by omega,rfl,rfl,?_,rfl,rfl,rfl,rfl,by congr 1,trivial⟩
   rw [dif_pos Ev.wM] at hf
   exact hf
  ·rw [if_neg (by rw [hc];simp)] at hf
   repeat first|refine go ?_|with_reducible intro _
   exact Wk.inv ⟨2*i+1,.inl rfl,by omega,rfl,rfl,hf,Ev.kM⟩
 rintro L Z' A' - ⟨c,hc0,hc1,rfl,rfl,hf2,hk⟩
 clear hf
 refine Wk.kp hk ?_
 clear hk
 repeat first|refine go ?_|with_reducible intro _
 refine Wk.drawr (ms:=[0,0,0,6,15,31,0,0,0,384,960,1984,4095,8191]) (l:=[0,1,2,3,4,5,6,7,8,9,10,11,12,13]) Ev.cM Ev.cM Ev.cM rfl ?_
 repeat first|refine go ?_|with_reducible intro _
 refine Wk.iaP (first+i) rfl rfl rfl rfl Ev.rM rfl rfl Ev.wM Ev.wM ?_
 refine Wk.loadOlp (cs:=[_]) rfl rfl Ev.rM (Go.Proofs.J.ic_get Ev.oM) rfl rfl rfl ?_
 repeat first|refine go ?_|with_reducible intro _
 refine Wk.iaP (first+c) rfl rfl rfl rfl Ev.rM rfl rfl Ev.wM Ev.wM ?_
 refine Wk.loadOlp (cs:=[_]) rfl rfl Ev.rM (Go.Proofs.J.ic_get Ev.oM) rfl rfl rfl ?_
 repeat first|refine go ?_|with_reducible intro _
 refine Wk.call rfl rfl (Spl.none _) (sLess) Ev.cM rfl rfl ?_
 rintro v' Z' A' hz ⟨rfl,rfl,rfl⟩
 repeat first|refine go ?_|with_reducible intro _
 refine Wk.cond rfl (fun hc=>?_) (fun hc=>?_)
 ·rw [if_pos hc] at hf2
  repeat first|refine go ?_|with_reducible intro _
  refine Wk.ret ⟨_,Rs.nil,_,Sub.refl _,rfl,by rw [←hf2];rfl⟩
 ·rw [if_neg (by rw [hc];simp)] at hf2
  repeat first|refine go ?_|with_reducible intro _
  refine Wk.drawr (ms:=[0,0,0,6,0,0,0,96,0,0,0,1536,3840,7936,0,0,0,98304,245760,507904,1048335,2096911,4194303,8388607]) (l:=[0,1,2,3,4,5,6,7,8,9,10,11,12,13,14,15,16,17,18,19,20,21,22,23]) Ev.cM Ev.cM Ev.cM rfl ?_
  repeat first|refine go ?_|with_reducible intro _
  refine Wk.iaP (first+c) rfl rfl rfl rfl Ev.rM rfl rfl Ev.wM Ev.wM ?_
  refine Wk.loadOlp (cs:=[_]) rfl rfl Ev.rM (Go.Proofs.J.ic_get Ev.oM) rfl rfl rfl ?_
  repeat first|refine go ?_|with_reducible intro _
  refine Wk.iaP (first+i) rfl rfl rfl rfl Ev.rM rfl rfl Ev.wM Ev.wM ?_
  refine Wk.loadOlp (cs:=[_]) rfl rfl Ev.rM (Go.Proofs.J.ic_get Ev.oM) rfl rfl rfl ?_
  repeat first|refine go ?_|with_reducible intro _
  refine Wk.iaP (first+i) rfl rfl rfl rfl Ev.rM rfl rfl Ev.wM Ev.wM ?_
  refine Wk.storeOlp rfl rfl rfl rfl rfl Ev.rM (Go.Proofs.J.ic_set Ev.oM) Ev.cM rfl ?_
  refine Wk.iaP (first+c) rfl rfl rfl rfl Ev.rM rfl rfl Ev.wM Ev.wM ?_
  refine Wk.storeOlp rfl rfl rfl rfl rfl Ev.rM (Go.Proofs.J.ic_set Ev.oM) Ev.cM rfl ?_
  repeat first|refine go ?_|with_reducible intro _
  exact Wk.inv ⟨_,by omega,c,swp e (first+i) (first+c),by omega,rfl,rfl,rfl,by rw [swp_size];exact he,hf2,Ev.kM⟩
theorem heap {Z:Zone} {v:Value} {b0 n a b:Nat} {d:Array Int} (hn:d.size=n) (hb:b≤n) (hs:n≤1000000) (hab:a < b) :
  Cz M (.func (.func 188) #[] #[]) [v,.int .i64 a,.int .i64 b] Z [olp b0 1 v n (ic d)] (fun v' Z' A'=>Z=Z'∧A'=[olp b0 1 v n (ic (heapSort ltInt d a b))]):=by
 refine Cz.fn (f:=Tryz.f188) Ev.cM rfl rfl rfl _ rfl ?_
 repeat first|refine go ?_|with_reducible intro _
 have hq:((b:Int) - a - 1) / 2=((b - a - 1) / 2:Nat):=by omega
 refine Wk.loop (fun mm L Z' A'=>∃ (k:Nat) (e:Array Int),k≤(b - a - 1) / 2+1∧mm=k∧Z=Z'∧A'=[olp b0 1 v n (ic e)]∧e.size=n∧heapBuild ltInt (b - a) a k e=heapBuild ltInt (b - a) a ((b - a - 1) / 2+1) d∧Kp L [(0,v),(6,.int .i64 a),(7,.int .i64 0),(8,.int .i64 (b - a:Nat)),(9,.int .i64 ((k:Int) - 1))]) ((b - a - 1) / 2+1) ⟨(b - a - 1) / 2+1,d,Nat.le_refl _,rfl,rfl,rfl,hn,rfl,rfl,rfl,rfl,kpI rfl Ev.wM,kpI rfl Ev.wM,trivial⟩ ?_
 rintro mm L Z' A' - ⟨k,e,hk0,hmm,rfl,rfl,he,hf,hk⟩
 refine Wk.kp hk ?_
 clear hk
 repeat first|refine go ?_|with_reducible intro _
 refine Wk.cond rfl (fun hc=>?_) (fun hc=>?_)
 ·obtain ⟨q,rfl⟩:∃ q,k=q+1:=⟨k - 1,by simp at hc;omega⟩
  clear hc
  refine Wk.tell 9 (.int .i64 (q:Nat)) rfl (by congr 1;omega) ?_
  repeat first|refine go ?_|with_reducible intro _
  refine Wk.call rfl rfl (Spl.all _) (sift he Ev.wM hs Ev.wM) rfl rfl rfl ?_
  rintro v' Z' A' hz ⟨rfl,rfl⟩
  repeat first|refine go ?_|with_reducible intro _
  refine Wk.inv ⟨_,by omega,q,_,by omega,rfl,rfl,rfl,by rw [siftDown_size _ _ _ _ _ (Nat.le_refl _)];exact he,by rw [←hf];rfl,Ev.kM⟩
 obtain rfl:k=0:=by simp at hc;omega
 clear hc
 have hf':e=heapBuild ltInt (b - a) a ((b - a - 1) / 2+1) d:=by rw [←hf];rfl
 have hh:heapSort ltInt d a b=heapPop ltInt a (b - a) e:=by rw [hf'];rfl
 repeat first|refine go ?_|with_reducible intro _
 refine Wk.loop (fun mm L Z' A'=>∃ (k:Nat) (e':Array Int),k≤b - a∧mm=k∧Z=Z'∧A'=[olp b0 1 v n (ic e')]∧e'.size=n∧heapPop ltInt a k e'=heapPop ltInt a (b - a) e∧Kp L [(0,v),(6,.int .i64 a),(7,.int .i64 0),(10,.int .i64 ((k:Int) - 1))]) (b - a) ⟨b - a,e,Nat.le_refl _,rfl,rfl,rfl,he,rfl,rfl,rfl,rfl,kpI rfl Ev.wM,trivial⟩ ?_
 rintro mm L Z' A' - ⟨k,e',hk0,hmm,rfl,rfl,he',hf2,hk⟩
 refine Wk.kp hk ?_
 clear hk
 repeat first|refine go ?_|with_reducible intro _
 refine Wk.cond rfl (fun hc=>?_) (fun hc=>?_)
 ·obtain ⟨q,rfl⟩:∃ q,k=q+1:=⟨k - 1,by simp at hc;omega⟩
  clear hc
  refine Wk.tell 10 (.int .i64 (q:Nat)) rfl (by congr 1;omega) ?_
  repeat first|refine go ?_|with_reducible intro _
  refine Wk.drawr (ms:=[0,0,0,0,0,24,0,0,0,384,960,1984,0,0,12288,28672,65475,131011,262143,524287]) (l:=[0,1,2,3,4,5,6,7,8,9,10,11,12,13,14,15,16,17,18,19]) Ev.cM Ev.cM Ev.cM rfl ?_
  repeat first|refine go ?_|with_reducible intro _
  refine Wk.iaP (a+q) rfl rfl rfl rfl Ev.rM rfl rfl Ev.wM Ev.wM ?_
  refine Wk.loadOlp (cs:=[_]) rfl rfl Ev.rM (Go.Proofs.J.ic_get Ev.oM) rfl rfl rfl ?_
  repeat first|refine go ?_|with_reducible intro _
  refine Wk.iaP (a) rfl rfl rfl rfl Ev.rM rfl rfl Ev.wM Ev.wM ?_
  refine Wk.loadOlp (cs:=[_]) rfl rfl Ev.rM (Go.Proofs.J.ic_get Ev.oM) rfl rfl rfl ?_
  repeat first|refine go ?_|with_reducible intro _
  refine Wk.iaP (a) rfl rfl rfl rfl Ev.rM rfl rfl Ev.wM Ev.wM ?_
  refine Wk.storeOlp rfl rfl rfl rfl rfl Ev.rM (Go.Proofs.J.ic_set Ev.oM) Ev.cM rfl ?_
  refine Wk.iaP (a+q) rfl rfl rfl rfl Ev.rM rfl rfl Ev.wM Ev.wM ?_
  refine Wk.storeOlp rfl rfl rfl rfl rfl Ev.rM (Go.Proofs.J.ic_set Ev.oM) Ev.cM rfl ?_
  repeat first|refine go ?_|with_reducible intro _
  refine Wk.call rfl rfl (Spl.all _) (sift (d:=swp e' a (a+q)) (by rw [swp_size];exact he') Ev.wM hs (Nat.zero_le _)) rfl rfl rfl ?_
  rintro v' Z' A' hz ⟨rfl,rfl⟩
  repeat first|refine go ?_|with_reducible intro _
  refine Wk.inv ⟨_,by omega,q,_,by omega,rfl,rfl,rfl,by rw [siftDown_size _ _ _ _ _ (Nat.le_refl _),swp_size];exact he',by rw [←hf2];rfl,Ev.kM⟩
 obtain rfl:k=0:=by simp at hc;omega
 repeat first|refine go ?_|with_reducible intro _
 refine Wk.done ⟨_,Rs.nil,_,Sub.refl _,rfl,by rw [hh,←hf2];rfl⟩
theorem reverse_ {Z:Zone} {v:Value} {b0 n a b:Nat} {d:Array Int} (hn:d.size=n) (hb:b≤n) (hs:n≤1000000) (hab:a < b) :
  Cz M (.func (.func 191) #[] #[]) [v,.int .i64 a,.int .i64 b] Z [olp b0 1 v n (ic d)] (fun v' Z' A'=>Z=Z'∧A'=[olp b0 1 v n (ic (reverseRange d a b))]):=by
 refine Cz.fn (f:=Tryz.f191) Ev.cM rfl rfl rfl _ rfl ?_
 repeat first|refine go ?_|with_reducible intro _
 refine Wk.loop (fun mm L Z' A'=>∃ (i j:Nat) (e:Array Int),j < b∧(j:Int) - i+1≤mm∧i≤b∧Z=Z'∧A'=[olp b0 1 v n (ic e)]∧e.size=n∧reverseLoop i j e=reverseRange d a b∧Kp L [(0,v),(6,.int .i64 i),(7,.int .i64 j)]) b ⟨a,b - 1,d,by omega,by omega,by omega,rfl,rfl,hn,rfl,rfl,rfl,kpI rfl Ev.wM,trivial⟩ ?_
 rintro mm L Z' A' - ⟨i,j,e,hj,hm,hib,rfl,rfl,he,hf,hk⟩
 refine Wk.kp hk ?_
 clear hk
 rw [reverseLoop] at hf
 repeat first|refine go ?_|with_reducible intro _
 refine Wk.cond rfl (fun hc=>?_) (fun hc=>?_)
 ·have hij:i < j:=by simp at hc;omega
  clear hc
  rw [if_pos hij] at hf
  repeat first|refine go ?_|with_reducible intro _
  refine Wk.drawr (ms:=[0,0,0,0,0,0,48,112,0,0,768,1792,4083,8179,16383,32767]) (l:=[0,1,2,3,4,5,6,7,8,9,10,11,12,13,14,15]) Ev.cM Ev.cM Ev.cM rfl ?_
  repeat first|refine go ?_|with_reducible intro _
  refine Wk.iaP (j) rfl rfl rfl rfl Ev.rM rfl rfl Ev.wM Ev.wM ?_
  refine Wk.loadOlp (cs:=[_]) rfl rfl Ev.rM (Go.Proofs.J.ic_get Ev.oM) rfl rfl rfl ?_
  repeat first|refine go ?_|with_reducible intro _
  refine Wk.iaP (i) rfl rfl rfl rfl Ev.rM rfl rfl Ev.wM Ev.wM ?_
  refine Wk.loadOlp (cs:=[_]) rfl rfl Ev.rM (Go.Proofs.J.ic_get Ev.oM) rfl rfl rfl ?_
  repeat first|refine go ?_|with_reducible intro _
  refine Wk.iaP (i) rfl rfl rfl rfl Ev.rM rfl rfl Ev.wM Ev.wM ?_
  refine Wk.storeOlp rfl rfl rfl rfl rfl Ev.rM (Go.Proofs.J.ic_set Ev.oM) Ev.cM rfl ?_
  refine Wk.iaP (j) rfl rfl rfl rfl Ev.rM rfl rfl Ev.wM Ev.wM ?_
  refine Wk.storeOlp rfl rfl rfl rfl rfl Ev.rM (Go.Proofs.J.ic_set Ev.oM) Ev.cM rfl ?_
  repeat first|refine go ?_|with_reducible intro _
  refine Wk.inv ⟨mm - 1,by omega,i+1,j - 1,swp e i j,by omega,by omega,by omega,rfl,rfl,by rw [swp_size];exact he,hf,rfl,kpI rfl Ev.wM,kpI rfl Ev.wM,trivial⟩
 ·rw [if_neg (by simp at hc;omega)] at hf
  repeat first|refine go ?_|with_reducible intro _
  refine Wk.done ⟨_,Rs.nil,_,Sub.refl _,rfl,by rw [←hf]⟩
end Go.Proofs.J
namespace Go.Proofs.J
open Go.Ev Go Go.Sort
theorem order2_ {Z:Zone} {v:Value} {b0 bs n a b k:Nat} {d:Array Int} (hn:d.size=n) (ha:a < n) (hb:b < n) (hs:n≤1000000) (hk:k≤1000) :
  Cz M (.func (.func 246) #[] #[]) [v,.int .i64 a,.int .i64 b,.pointer (some ⟨bs,0,none⟩)] Z [pt bs (.cells [.int .i64 k] true 0),olp b0 1 v n (ic d)]
   (fun v' Z' A'=>∃ x y k':Nat,v'=.tuple ⟨[.int .i64 x,.int .i64 y]⟩∧(x=a∧y=b∨x=b∧y=a)∧k'≤k+1∧Z=Z'∧A'=[pt bs (.cells [.int .i64 k'] true 0),olp b0 1 v n (ic d)]):=by
 refine Cz.fn (f:=Tryz.f246) Ev.cM rfl rfl rfl _ rfl ?_
 repeat first|refine go ?_|with_reducible intro _
 refine Wk.drawr (ms:=[0,0,3,7,0,0,48,112,255]) (l:=[0,1,2,3,4,5,6,7,8]) Ev.cM Ev.cM Ev.cM rfl ?_
 repeat first|refine go ?_|with_reducible intro _
 refine Wk.iaP (b) rfl rfl rfl rfl Ev.rM rfl rfl Ev.wM Ev.wM ?_
 refine Wk.loadOlp (cs:=[_]) rfl rfl Ev.rM (Go.Proofs.J.ic_get Ev.oM) rfl rfl rfl ?_
 repeat first|refine go ?_|with_reducible intro _
 refine Wk.iaP (a) rfl rfl rfl rfl Ev.rM rfl rfl Ev.wM Ev.wM ?_
 refine Wk.loadOlp (cs:=[_]) rfl rfl Ev.rM (Go.Proofs.J.ic_get Ev.oM) rfl rfl rfl ?_
 repeat first|refine go ?_|with_reducible intro _
 refine Wk.call rfl rfl (Spl.none _) (sLess) Ev.cM rfl rfl ?_
 rintro v' Z' A' hz ⟨rfl,rfl,rfl⟩
 repeat first|refine go ?_|with_reducible intro _
 refine Wk.cond rfl (fun hc=>?_) (fun hc=>?_)
 ·repeat first|refine go ?_|with_reducible intro _
  refine Wk.ret ⟨_,Rs.tmp rfl (Rs.tmp rfl Rs.nil),_,Ev.sM,b,a,k+1,rfl,.inr ⟨rfl,rfl⟩,Nat.le_refl _,rfl,rfl⟩
 ·repeat first|refine go ?_|with_reducible intro _
  refine Wk.ret ⟨_,Rs.tmp rfl (Rs.tmp rfl Rs.nil),_,Ev.sM,a,b,k,rfl,.inl ⟨rfl,rfl⟩,by omega,rfl,rfl⟩
theorem median_ {Z:Zone} {v:Value} {b0 bs n a b c k:Nat} {d:Array Int} (hn:d.size=n) (ha:a < n) (hb:b < n) (hc:c < n) (hs:n≤1000000) (hk:k≤500) :
  Cz M (.func (.func 228) #[] #[]) [v,.int .i64 a,.int .i64 b,.int .i64 c,.pointer (some ⟨bs,0,none⟩)] Z [pt bs (.cells [.int .i64 k] true 0),olp b0 1 v n (ic d)]
   (fun v' Z' A'=>∃ x k':Nat,v'=.int .i64 x∧(x=a∨x=b∨x=c)∧k'≤k+3∧Z=Z'∧A'=[pt bs (.cells [.int .i64 k'] true 0),olp b0 1 v n (ic d)]):=by
 refine Cz.fn (f:=Tryz.f228) Ev.cM rfl rfl rfl _ rfl ?_
 repeat first|refine go ?_|with_reducible intro _
 refine Wk.call rfl rfl (Spl.all _) (order2_ hn ha hb hs Ev.wM) rfl rfl rfl ?_
 rintro v' Z' A' hz ⟨x1,y1,k1,rfl,h1,hk1,rfl,rfl⟩
 repeat first|refine go ?_|with_reducible intro _
 refine Wk.call rfl rfl (Spl.all _) (order2_ (a:=y1) (b:=c) hn Ev.wM hc hs Ev.wM) rfl rfl rfl ?_
 rintro v' Z' A' hz ⟨x2,y2,k2,rfl,h2,hk2,rfl,rfl⟩
 repeat first|refine go ?_|with_reducible intro _
 refine Wk.call rfl rfl (Spl.all _) (order2_ (a:=x1) (b:=x2) hn Ev.wM Ev.wM hs Ev.wM) rfl rfl rfl ?_
 rintro v' Z' A' hz ⟨x3,y3,k3,rfl,h3,hk3,rfl,rfl⟩
 repeat first|refine go ?_|with_reducible intro _
 refine Wk.ret ⟨_,Rs.tmp rfl Rs.nil,_,Ev.sM,y3,k3,rfl,by omega,by omega,rfl,rfl⟩
theorem medianAdj {Z:Zone} {v:Value} {b0 bs n a k:Nat} {d:Array Int} (hn:d.size=n) (ha:1≤a) (hb:a+1 < n) (hs:n≤1000000) (hk:k≤500) :
  Cz M (.func (.func 227) #[] #[]) [v,.int .i64 a,.pointer (some ⟨bs,0,none⟩)] Z [pt bs (.cells [.int .i64 k] true 0),olp b0 1 v n (ic d)]
   (fun v' Z' A'=>∃ x k':Nat,v'=.int .i64 x∧(x+1=a∨x=a∨x=a+1)∧k'≤k+3∧Z=Z'∧A'=[pt bs (.cells [.int .i64 k'] true 0),olp b0 1 v n (ic d)]):=by
 refine Cz.fn (f:=Tryz.f227) Ev.cM rfl rfl rfl _ rfl ?_
 repeat first|refine go ?_|with_reducible intro _
 obtain ⟨a,rfl⟩:∃ a',a=a'+1:=⟨a - 1,by omega⟩
 refine Wk.tellr 9 (.int .i64 (a:Nat)) rfl (by congr 1;omega) ?_
 refine Wk.tellr 12 (.int .i64 (a+2:Nat)) rfl (by congr 1) ?_
 refine Wk.call rfl rfl (Spl.all _) (median_ hn Ev.wM Ev.wM Ev.wM hs Ev.wM) rfl rfl rfl ?_
 rintro v' Z' A' hz ⟨x1,k1,rfl,h1,hk1,rfl,rfl⟩
 repeat first|refine go ?_|with_reducible intro _
 refine Wk.ret ⟨_,Rs.tmp rfl Rs.nil,_,Ev.sM,x1,k1,rfl,by omega,by omega,rfl,rfl⟩
theorem pivot_ {Z:Zone} {v:Value} {b0 n a b:Nat} {d:Array Int} (hn:d.size=n) (hab:a < b) (hb:b≤n) (hs:n≤1000000) :
  Cz M (.func (.func 190) #[] #[]) [v,.int .i64 a,.int .i64 b] Z [olp b0 1 v n (ic d)]
   (fun v' Z' A'=>∃ (p:Nat) (h:Int),v'=.tuple ⟨[.int .i64 p,.int .i64 h]⟩∧a≤p∧p < b∧Z=Z'∧A'=[olp b0 1 v n (ic d)]):=by
 refine Cz.fn (f:=Tryz.f190) Ev.cM rfl rfl rfl _ rfl ?_
 repeat first|refine go ?_|with_reducible intro _
 rename_i bs
 refine Wk.cut (fun L Z' A'=>∃ (p k:Nat),a≤p∧p < b∧k≤100∧Z=Z'∧A'=[pt bs (.cells [.int .i64 k] true 0),olp b0 1 v n (ic d)]∧Kp L [(9,.pointer (some ⟨bs,0,none⟩)),(11,.int .i64 p)]) ?_ ?_
 ·refine Wk.tell 8 (.int .i64 (b - a:Nat)) rfl (by congr 1;omega) ?_
  refine Wk.tell 10 (.int .i64 (a+(b - a) / 4*1:Nat)) rfl (by congr 1;omega) ?_
  refine Wk.tell 11 (.int .i64 (a+(b - a) / 4*2:Nat)) rfl (by congr 1;omega) ?_
  refine Wk.tell 12 (.int .i64 (a+(b - a) / 4*3:Nat)) rfl (by congr 1;omega) ?_
  repeat first|refine go ?_|with_reducible intro _
  refine Wk.cond rfl (fun hc=>?_) (fun hc=>?_)
  ·have h8:8≤b - a:=by simp at hc;omega
   clear hc
   repeat first|refine go ?_|with_reducible intro _
   refine Wk.cut (fun L Z' A'=>∃ (i j k kk:Nat),(a≤i∧i < b)∧(a≤j∧j < b)∧(a≤k∧k < b)∧kk≤9∧Z=Z'∧A'=[pt bs (.cells [.int .i64 kk] true 0),olp b0 1 v n (ic d)]∧Kp L [(0,v),(9,.pointer (some ⟨bs,0,none⟩)),(10,.int .i64 i),(11,.int .i64 j),(12,.int .i64 k)]) ?_ ?_
   ·refine Wk.cond rfl (fun hc=>?_) (fun hc=>?_)
    ·have h50:50≤b - a:=by simp at hc;omega
     clear hc
     repeat first|refine go ?_|with_reducible intro _
     refine Wk.call rfl rfl (Spl.all _) (medianAdj (k:=0) hn Ev.wM Ev.wM hs Ev.wM) rfl rfl rfl ?_
     rintro v' Z' A' hz ⟨x1,k1,rfl,h1,hk1,rfl,rfl⟩
     repeat first|refine go ?_|with_reducible intro _
     refine Wk.call rfl rfl (Spl.all _) (medianAdj hn Ev.wM Ev.wM hs Ev.wM) rfl rfl rfl ?_
     rintro v' Z' A' hz ⟨x2,k2,rfl,h2,hk2,rfl,rfl⟩
     repeat first|refine go ?_|with_reducible intro _
     refine Wk.call rfl rfl (Spl.all _) (medianAdj hn Ev.wM Ev.wM hs Ev.wM) rfl rfl rfl ?_
     rintro v' Z' A' hz ⟨x3,k3,rfl,h3,hk3,rfl,rfl⟩
     repeat first|refine go ?_|with_reducible intro _
     exact Wk.inv ⟨x1,x2,x3,k3,by omega,by omega,by omega,by omega,rfl,rfl,Ev.kM⟩
    ·repeat first|refine go ?_|with_reducible intro _
     exact Wk.inv ⟨a+(b - a) / 4*1,a+(b - a) / 4*2,a+(b - a) / 4*3,0,by omega,by omega,by omega,by omega,rfl,rfl,Ev.kM⟩
   rintro L Z' A' - ⟨i,j,k,kk,hi,hj,hk1,hkk,rfl,rfl,hk⟩
   refine Wk.kp hk ?_
   clear hk
   repeat first|refine go ?_|with_reducible intro _
   refine Wk.call rfl rfl (Spl.all _) (median_ hn Ev.wM Ev.wM Ev.wM hs Ev.wM) rfl rfl rfl ?_
   rintro v' Z' A' hz ⟨x1,k1,rfl,h1,hk1,rfl,rfl⟩
   repeat first|refine go ?_|with_reducible intro _
   exact Wk.inv ⟨x1,k1,by omega,by omega,by omega,rfl,rfl,Ev.kM⟩
  ·have h8:¬ 8≤b - a:=by simp at hc;omega
   repeat first|refine go ?_|with_reducible intro _
   exact Wk.inv ⟨a+(b - a) / 4*2,0,by omega,by omega,by omega,rfl,rfl,Ev.kM⟩
 rintro L Z' A' - ⟨p,k,hp1,hp2,hk0,rfl,rfl,hk⟩
 refine Wk.kp hk ?_
 clear hk
 repeat first|refine go ?_|with_reducible intro _
 refine Wk.cond rfl (fun hc=>?_) (fun hc=>?_)
 ·repeat first|refine go ?_|with_reducible intro _
  refine Wk.ret ⟨_,Rs.tmp rfl (Rs.tmp rfl Rs.nil),_,Ev.sM,p,_,rfl,hp1,hp2,rfl,rfl⟩
 ·repeat first|refine go ?_|with_reducible intro _
  refine Wk.cond rfl (fun hc=>?_) (fun hc=>?_)
  ·repeat first|refine go ?_|with_reducible intro _
   refine Wk.ret ⟨_,Rs.tmp rfl (Rs.tmp rfl Rs.nil),_,Ev.sM,p,_,rfl,hp1,hp2,rfl,rfl⟩
  ·repeat first|refine go ?_|with_reducible intro _
   refine Wk.ret ⟨_,Rs.tmp rfl (Rs.tmp rfl Rs.nil),_,Ev.sM,p,_,rfl,hp1,hp2,rfl,rfl⟩
end Go.Proofs.J
namespace Go.Proofs.J
open Go.Ev Go Go.Sort
theorem partition_def {d d1:Array Int} {a b p i j:Nat} (h:d1=swp d a p) (hi:scanUp (fun x=>ltInt x d1[a]!) d1 (b - 1) (a+1)=i) (hj:scanDown (fun x=>!ltInt x d1[a]!) d1 i (b - 1)=j) :
  partition ltInt d a b p=if i > j then (j,true,swp d1 j a) else ((partLoop ltInt a (i+1) (j - 1) (swp d1 i j)).1,false,swp (partLoop ltInt a (i+1) (j - 1) (swp d1 i j)).2 (partLoop ltInt a (i+1) (j - 1) (swp d1 i j)).1 a):=by
 subst h hi hj;rfl
theorem up_go {p:Int→Bool} {d:Array Int} {j i:Nat} (h:(decide (i≤j)&&p d[i]!)=true):scanUp p d j i=scanUp p d j (i+1):=by rw [scanUp,if_pos h]
theorem up_stop {p:Int→Bool} {d:Array Int} {j i:Nat} (h:(decide (i≤j)&&p d[i]!)=false):scanUp p d j i=i:=by rw [scanUp,if_neg (by rw [h];simp)]
theorem down_go {p:Int→Bool} {d:Array Int} {j i:Nat} (h:(decide (i≤j+1)&&p d[j+1]!)=true):scanDown p d i (j+1)=scanDown p d i j:=by rw [scanDown,if_pos h]
theorem down_stop {p:Int→Bool} {d:Array Int} {j i:Nat} (hi:1≤i) (h:(decide (i≤j)&&p d[j]!)=false):scanDown p d i j=j:=by
 cases j with
 | zero=>rfl
 | succ j=>rw [scanDown,if_neg (by rw [h];simp)]
theorem partition_ {Z:Zone} {v:Value} {b0 n a b p:Nat} {d:Array Int} (hn:d.size=n) (hp1:a≤p) (hp2:p < b) (hb:b≤n) (hs:n≤1000000) :
  Cz M (.func (.func 195) #[] #[]) [v,.int .i64 a,.int .i64 b,.int .i64 p] Z [olp b0 1 v n (ic d)] (fun v' Z' A'=>v'=.tuple ⟨[.int .i64 (partition ltInt d a b p).1,.bool (partition ltInt d a b p).2.1]⟩∧Z=Z'∧A'=[olp b0 1 v n (ic (partition ltInt d a b p).2.2)]):=by
 obtain ⟨d1,hd1⟩:∃ d1,d1=swp d a p:=⟨_,rfl⟩
 have hs1:d1.size=n:=by rw [hd1,Go.Sort.swp_size];exact hn
 refine Cz.fn (f:=Tryz.f195) Ev.cM rfl rfl rfl _ rfl ?_
 repeat first|refine go ?_|with_reducible intro _
 refine Wk.drawr (ms:=[0,0,0,0,0,0,48,112,0,0,768,1792,4083,8179,16383,32767]) (l:=[0,1,2,3,4,5,6,7,8,9,10,11,12,13,14,15]) Ev.cM Ev.cM Ev.cM rfl ?_
 repeat first|refine go ?_|with_reducible intro _
 refine Wk.iaP (p) rfl rfl rfl rfl Ev.rM rfl rfl Ev.wM Ev.wM ?_
 refine Wk.loadOlp (cs:=[_]) rfl rfl Ev.rM (Go.Proofs.J.ic_get Ev.oM) rfl rfl rfl ?_
 repeat first|refine go ?_|with_reducible intro _
 refine Wk.iaP (a) rfl rfl rfl rfl Ev.rM rfl rfl Ev.wM Ev.wM ?_
 refine Wk.loadOlp (cs:=[_]) rfl rfl Ev.rM (Go.Proofs.J.ic_get Ev.oM) rfl rfl rfl ?_
 repeat first|refine go ?_|with_reducible intro _
 refine Wk.iaP (a) rfl rfl rfl rfl Ev.rM rfl rfl Ev.wM Ev.wM ?_
 refine Wk.storeOlp rfl rfl rfl rfl rfl Ev.rM (Go.Proofs.J.ic_set Ev.oM) Ev.cM rfl ?_
 refine Wk.iaP (p) rfl rfl rfl rfl Ev.rM rfl rfl Ev.wM Ev.wM ?_
 refine Wk.storeOlp rfl rfl rfl rfl rfl Ev.rM (Go.Proofs.J.ic_set Ev.oM) Ev.cM rfl ?_
 repeat first|refine go ?_|with_reducible intro _
 refine Wk.loop (fun mm L Z' A'=>∃ i:Nat,a+1≤i∧i≤b∧mm=b - i∧Z=Z'∧A'=[olp b0 1 v n (ic d1)]∧scanUp (fun x=>ltInt x d1[a]!) d1 (b - 1) i=scanUp (fun x=>ltInt x d1[a]!) d1 (b - 1) (a+1)∧Kp L [(0,v),(1,.int .i64 a),(2,.int .i64 b),(10,.int .i64 i),(11,.int .i64 (b - 1:Nat))]) (b - (a+1)) ⟨a+1,Nat.le_refl _,by omega,rfl,rfl,by rw [hd1];rfl,rfl,Ev.kM⟩ ?_
 rintro mm L Z' A' - ⟨i,hi1,hi2,rfl,rfl,rfl,hf,hk⟩
 refine Wk.kp hk ?_
 clear hk
 repeat first|refine go ?_|with_reducible intro _
 refine Wk.drawr (ms:=[0,0,3,7,15,15,63,127,15,15,783,1807,4095,8191]) (l:=[0,1,2,3,4,5,6,7,8,9,10,11,12,13]) Ev.cM Ev.cM Ev.cM rfl ?_
 repeat first|refine go ?_|with_reducible intro _
 refine Wk.cutr (fun L Z' A'=>Z=Z'∧A'=[olp b0 1 v n (ic d1)]∧Kp L [(0,v),(1,.int .i64 a),(2,.int .i64 b),(10,.int .i64 i),(11,.int .i64 (b - 1:Nat)),(43,.bool (decide (i≤b - 1)&&ltInt d1[i]! d1[a]!))]) ?_ ?_
 ·refine Wk.caser 33 rfl (fun hc=>?_) (fun hc=>?_)
  ·have hle:i≤b - 1:=by simp at hc;omega
   clear hc
   repeat first|refine go ?_|with_reducible intro _
   refine Wk.iaP (i) rfl rfl rfl rfl Ev.rM rfl rfl Ev.wM Ev.wM ?_
   refine Wk.loadOlp (cs:=[_]) rfl rfl Ev.rM (Go.Proofs.J.ic_get Ev.oM) rfl rfl rfl ?_
   repeat first|refine go ?_|with_reducible intro _
   refine Wk.iaP (a) rfl rfl rfl rfl Ev.rM rfl rfl Ev.wM Ev.wM ?_
   refine Wk.loadOlp (cs:=[_]) rfl rfl Ev.rM (Go.Proofs.J.ic_get Ev.oM) rfl rfl rfl ?_
   repeat first|refine go ?_|with_reducible intro _
   refine Wk.call rfl rfl (Spl.none _) (sLess) Ev.cM rfl rfl ?_
   rintro v' Z' A' hz ⟨rfl,rfl,rfl⟩
   repeat first|refine go ?_|with_reducible intro _
   exact Wk.inv ⟨rfl,rfl,rfl,rfl,rfl,rfl,rfl,and_l hle,trivial⟩
  ·have hle:¬ i≤b - 1:=by simp at hc;omega
   clear hc
   repeat first|refine go ?_|with_reducible intro _
   exact Wk.inv ⟨rfl,rfl,rfl,rfl,rfl,rfl,rfl,and_f hle,trivial⟩
 rintro L Z' A' - ⟨rfl,rfl,hk⟩
 refine Wk.kp hk ?_
 clear hk
 refine Wk.cond rfl (fun hc=>?_) (fun hc=>?_)
 ·have e1:=up_go (p:=fun x=>ltInt x d1[a]!) hc
  have:i≤b - 1:=by simp at hc;exact hc.1
  repeat first|refine go ?_|with_reducible intro _
  exact Wk.inv ⟨_,by omega,i+1,by omega,by omega,rfl,rfl,rfl,by rw [←hf,e1],Ev.kM⟩
 have hI:=hf.symm.trans (up_stop (p:=fun x=>ltInt x d1[a]!) hc)
 clear hf hc
 repeat first|refine go ?_|with_reducible intro _
 refine Wk.loop (fun mm L Z' A'=>∃ j:Nat,j≤b - 1∧i≤j+1∧mm=j∧Z=Z'∧A'=[olp b0 1 v n (ic d1)]∧scanDown (fun x=>!ltInt x d1[a]!) d1 i j=scanDown (fun x=>!ltInt x d1[a]!) d1 i (b - 1)∧Kp L [(0,v),(1,.int .i64 a),(2,.int .i64 b),(10,.int .i64 i),(11,.int .i64 j)]) (b - 1) ⟨b - 1,Nat.le_refl _,by omega,rfl,rfl,rfl,rfl,Ev.kM⟩ ?_
 rintro mm L Z' A' - ⟨j,hj1,hj2,hmm,rfl,rfl,hg,hk⟩
 refine Wk.kp hk ?_
 clear hk
 repeat first|refine go ?_|with_reducible intro _
 refine Wk.drawr (ms:=[0,0,3,7,15,15,63,127,15,15,783,1807,4095,8191,16383]) (l:=[0,1,2,3,4,5,6,7,8,9,10,11,12,13,14]) Ev.cM Ev.cM Ev.cM rfl ?_
 repeat first|refine go ?_|with_reducible intro _
 refine Wk.cutr (fun L Z' A'=>Z=Z'∧A'=[olp b0 1 v n (ic d1)]∧Kp L [(0,v),(1,.int .i64 a),(2,.int .i64 b),(10,.int .i64 i),(11,.int .i64 j),(60,.bool (decide (i≤j)&&!ltInt d1[j]! d1[a]!))]) ?_ ?_
 ·refine Wk.caser 49 rfl (fun hc=>?_) (fun hc=>?_)
  ·have hle:i≤j:=by simp at hc;omega
   clear hc
   repeat first|refine go ?_|with_reducible intro _
   refine Wk.iaP (j) rfl rfl rfl rfl Ev.rM rfl rfl Ev.wM Ev.wM ?_
   refine Wk.loadOlp (cs:=[_]) rfl rfl Ev.rM (Go.Proofs.J.ic_get Ev.oM) rfl rfl rfl ?_
   repeat first|refine go ?_|with_reducible intro _
   refine Wk.iaP (a) rfl rfl rfl rfl Ev.rM rfl rfl Ev.wM Ev.wM ?_
   refine Wk.loadOlp (cs:=[_]) rfl rfl Ev.rM (Go.Proofs.J.ic_get Ev.oM) rfl rfl rfl ?_
   repeat first|refine go ?_|with_reducible intro _
   refine Wk.call rfl rfl (Spl.none _) (sLess) Ev.cM rfl rfl ?_
   rintro v' Z' A' hz ⟨rfl,rfl,rfl⟩
   repeat first|refine go ?_|with_reducible intro _
   exact Wk.inv ⟨rfl,rfl,rfl,rfl,rfl,rfl,rfl,and_l hle,trivial⟩
  ·have hle:¬ i≤j:=by simp at hc;omega
   clear hc
   repeat first|refine go ?_|with_reducible intro _
   exact Wk.inv ⟨rfl,rfl,rfl,rfl,rfl,rfl,rfl,and_f hle,trivial⟩
 rintro L Z' A' - ⟨rfl,rfl,hk⟩
 refine Wk.kp hk ?_
 clear hk
 refine Wk.cond rfl (fun hc=>?_) (fun hc=>?_)
 ·have:i≤j:=by simp at hc;exact hc.1
  obtain ⟨q,rfl⟩:∃ q,j=q+1:=⟨j - 1,by omega⟩
  have e1:=down_go (p:=fun x=>!ltInt x d1[a]!) hc
  repeat first|refine go ?_|with_reducible intro _
  exact Wk.inv ⟨_,by omega,q,by omega,by omega,rfl,rfl,rfl,by rw [←hg,e1],Ev.kM⟩
 have hJ:=hg.symm.trans (down_stop (p:=fun x=>!ltInt x d1[a]!) Ev.wM hc)
 have hP:=partition_def hd1 hI hJ
 clear hg hc hmm
 repeat first|refine go ?_|with_reducible intro _
 refine Wk.cond rfl (fun hc=>?_) (fun hc=>?_)
 ·rw [if_pos (by simp at hc;omega)] at hP
  rw [hP]
  repeat first|refine go ?_|with_reducible intro _
  refine Wk.drawr (ms:=[0,0,0,0,0,0,48,112,0,0,768,1792,4083,8179,16383,32767]) (l:=[0,1,2,3,4,5,6,7,8,9,10,11,12,13,14,15]) Ev.cM Ev.cM Ev.cM rfl ?_
  repeat first|refine go ?_|with_reducible intro _
  refine Wk.iaP (a) rfl rfl rfl rfl Ev.rM rfl rfl Ev.wM Ev.wM ?_
  refine Wk.loadOlp (cs:=[_]) rfl rfl Ev.rM (Go.Proofs.J.ic_get Ev.oM) rfl rfl rfl ?_
  repeat first|refine go ?_|with_reducible intro _
  refine Wk.iaP (j) rfl rfl rfl rfl Ev.rM rfl rfl Ev.wM Ev.wM ?_
  refine Wk.loadOlp (cs:=[_]) rfl rfl Ev.rM (Go.Proofs.J.ic_get Ev.oM) rfl rfl rfl ?_
  repeat first|refine go ?_|with_reducible intro _
  refine Wk.iaP (j) rfl rfl rfl rfl Ev.rM rfl rfl Ev.wM Ev.wM ?_
  refine Wk.storeOlp rfl rfl rfl rfl rfl Ev.rM (Go.Proofs.J.ic_set Ev.oM) Ev.cM rfl ?_
  refine Wk.iaP (a) rfl rfl rfl rfl Ev.rM rfl rfl Ev.wM Ev.wM ?_
  refine Wk.storeOlp rfl rfl rfl rfl rfl Ev.rM (Go.Proofs.J.ic_set Ev.oM) Ev.cM rfl ?_
  repeat first|refine go ?_|with_reducible intro _
  refine Wk.ret ⟨_,Rs.tmp rfl (Rs.tmp rfl Rs.nil),_,Sub.refl _,rfl,rfl,rfl⟩
 have hij:i≤j:=by simp at hc;omega
 rw [if_neg Ev.wM] at hP
 rw [hP]
 clear hc hI hJ hP
 obtain ⟨q,rfl⟩:∃ q,j=q+1:=⟨j - 1,by omega⟩
 rw [Nat.add_sub_cancel]
 repeat first|refine go ?_|with_reducible intro _
 refine Wk.drawr (ms:=[0,0,0,0,0,0,48,112,0,0,768,1792,4083,8179,16383,32767]) (l:=[0,1,2,3,4,5,6,7,8,9,10,11,12,13,14,15]) Ev.cM Ev.cM Ev.cM rfl ?_
 repeat first|refine go ?_|with_reducible intro _
 refine Wk.iaP (q+1) rfl rfl rfl rfl Ev.rM rfl rfl Ev.wM Ev.wM ?_
 refine Wk.loadOlp (cs:=[_]) rfl rfl Ev.rM (Go.Proofs.J.ic_get Ev.oM) rfl rfl rfl ?_
 repeat first|refine go ?_|with_reducible intro _
 refine Wk.iaP (i) rfl rfl rfl rfl Ev.rM rfl rfl Ev.wM Ev.wM ?_
 refine Wk.loadOlp (cs:=[_]) rfl rfl Ev.rM (Go.Proofs.J.ic_get Ev.oM) rfl rfl rfl ?_
 repeat first|refine go ?_|with_reducible intro _
 refine Wk.iaP (i) rfl rfl rfl rfl Ev.rM rfl rfl Ev.wM Ev.wM ?_
 refine Wk.storeOlp rfl rfl rfl rfl rfl Ev.rM (Go.Proofs.J.ic_set Ev.oM) Ev.cM rfl ?_
 refine Wk.iaP (q+1) rfl rfl rfl rfl Ev.rM rfl rfl Ev.wM Ev.wM ?_
 refine Wk.storeOlp rfl rfl rfl rfl rfl Ev.rM (Go.Proofs.J.ic_set Ev.oM) Ev.cM rfl ?_
 repeat first|refine go ?_|with_reducible intro _
 refine Wk.loop (fun mm L Z' A'=>∃ (i' j':Nat) (e:Array Int),a+1≤i'∧i'≤j'+2∧j' < b∧mm=b+2 - i'∧Z=Z'∧A'=[olp b0 1 v n (ic e)]∧e.size=n∧partLoop ltInt a i' j' e=partLoop ltInt a (i+1) q (swp d1 i (q+1))∧Kp L [(0,v),(1,.int .i64 a),(2,.int .i64 b),(10,.int .i64 i'),(11,.int .i64 j')]) (b+2 - (i+1)) ⟨i+1,q,swp d1 i (q+1),by omega,by omega,by omega,rfl,rfl,rfl,by rw [Go.Sort.swp_size];exact hs1,rfl,Ev.kM⟩ ?_
 rintro mm L Z' A' - ⟨i',j',e,hi1',hi2',hj1',rfl,rfl,rfl,he,hR,hk⟩
 refine Wk.kp hk ?_
 clear hk
 rw [partLoop_eq] at hR
 repeat first|refine go ?_|with_reducible intro _
 refine Wk.loop (fun mm2 L Z' A'=>∃ i2:Nat,i'≤i2∧i2≤max i' (j'+1)∧mm2=b+2 - i2∧Z=Z'∧A'=[olp b0 1 v n (ic e)]∧scanUp (fun x=>ltInt x e[a]!) e j' i2=scanUp (fun x=>ltInt x e[a]!) e j' i'∧Kp L [(0,v),(1,.int .i64 a),(2,.int .i64 b),(10,.int .i64 i2),(11,.int .i64 j')]) (b+2 - i') ⟨i',Nat.le_refl _,by omega,rfl,rfl,rfl,rfl,Ev.kM⟩ ?_
 rintro mm2 L Z' A' - ⟨i2,hi3,hi4,rfl,rfl,rfl,hf,hk⟩
 refine Wk.kp hk ?_
 clear hk
 repeat first|refine go ?_|with_reducible intro _
 refine Wk.drawr (ms:=[0,0,3,7,15,15,63,127,15,15,783,1807,4095,8191]) (l:=[0,1,2,3,4,5,6,7,8,9,10,11,12,13]) Ev.cM Ev.cM Ev.cM rfl ?_
 repeat first|refine go ?_|with_reducible intro _
 refine Wk.cutr (fun L Z' A'=>Z=Z'∧A'=[olp b0 1 v n (ic e)]∧Kp L [(0,v),(1,.int .i64 a),(2,.int .i64 b),(10,.int .i64 i2),(11,.int .i64 j'),(112,.bool (decide (i2≤j')&&ltInt e[i2]! e[a]!))]) ?_ ?_
 ·refine Wk.caser 102 rfl (fun hc=>?_) (fun hc=>?_)
  ·have hle:i2≤j':=by simp at hc;omega
   clear hc
   repeat first|refine go ?_|with_reducible intro _
   refine Wk.iaP (i2) rfl rfl rfl rfl Ev.rM rfl rfl Ev.wM Ev.wM ?_
   refine Wk.loadOlp (cs:=[_]) rfl rfl Ev.rM (Go.Proofs.J.ic_get Ev.oM) rfl rfl rfl ?_
   repeat first|refine go ?_|with_reducible intro _
   refine Wk.iaP (a) rfl rfl rfl rfl Ev.rM rfl rfl Ev.wM Ev.wM ?_
   refine Wk.loadOlp (cs:=[_]) rfl rfl Ev.rM (Go.Proofs.J.ic_get Ev.oM) rfl rfl rfl ?_
   repeat first|refine go ?_|with_reducible intro _
   refine Wk.call rfl rfl (Spl.none _) (sLess) Ev.cM rfl rfl ?_
   rintro v' Z' A' hz ⟨rfl,rfl,rfl⟩
   repeat first|refine go ?_|with_reducible intro _
   exact Wk.inv ⟨rfl,rfl,rfl,rfl,rfl,rfl,rfl,and_l hle,trivial⟩
  ·have hle:¬ i2≤j':=by simp at hc;omega
   clear hc
   repeat first|refine go ?_|with_reducible intro _
   exact Wk.inv ⟨rfl,rfl,rfl,rfl,rfl,rfl,rfl,and_f hle,trivial⟩
 rintro L Z' A' - ⟨rfl,rfl,hk⟩
 refine Wk.kp hk ?_
 clear hk
 refine Wk.cond rfl (fun hc=>?_) (fun hc=>?_)
 ·have e1:=up_go (p:=fun x=>ltInt x e[a]!) hc
  have:i2≤j':=by simp at hc;exact hc.1
  repeat first|refine go ?_|with_reducible intro _
  exact Wk.inv ⟨_,by omega,i2+1,by omega,by omega,rfl,rfl,rfl,by rw [←hf,e1],Ev.kM⟩
 have hI:=hf.symm.trans (up_stop (p:=fun x=>ltInt x e[a]!) hc)
 clear hf hc
 rw [hI] at hR
 repeat first|refine go ?_|with_reducible intro _
 refine Wk.loop (fun mm2 L Z' A'=>∃ j2:Nat,j2≤j'∧(i2≤j2+1∨j2=j')∧mm2=j2∧Z=Z'∧A'=[olp b0 1 v n (ic e)]∧scanDown (fun x=>!ltInt x e[a]!) e i2 j2=scanDown (fun x=>!ltInt x e[a]!) e i2 j'∧Kp L [(0,v),(1,.int .i64 a),(2,.int .i64 b),(10,.int .i64 i2),(11,.int .i64 j2)]) j' ⟨j',Nat.le_refl _,.inr rfl,rfl,rfl,rfl,rfl,Ev.kM⟩ ?_
 rintro mm2 L Z' A' - ⟨j2,hj3,hj4,hmm,rfl,rfl,hg,hk⟩
 refine Wk.kp hk ?_
 clear hk
 repeat first|refine go ?_|with_reducible intro _
 refine Wk.drawr (ms:=[0,0,3,7,15,15,63,127,15,15,783,1807,4095,8191,16383]) (l:=[0,1,2,3,4,5,6,7,8,9,10,11,12,13,14]) Ev.cM Ev.cM Ev.cM rfl ?_
 repeat first|refine go ?_|with_reducible intro _
 refine Wk.cutr (fun L Z' A'=>Z=Z'∧A'=[olp b0 1 v n (ic e)]∧Kp L [(0,v),(1,.int .i64 a),(2,.int .i64 b),(10,.int .i64 i2),(11,.int .i64 j2),(129,.bool (decide (i2≤j2)&&!ltInt e[j2]! e[a]!))]) ?_ ?_
 ·refine Wk.caser 118 rfl (fun hc=>?_) (fun hc=>?_)
  ·have hle:i2≤j2:=by simp at hc;omega
   clear hc
   repeat first|refine go ?_|with_reducible intro _
   refine Wk.iaP (j2) rfl rfl rfl rfl Ev.rM rfl rfl Ev.wM Ev.wM ?_
   refine Wk.loadOlp (cs:=[_]) rfl rfl Ev.rM (Go.Proofs.J.ic_get Ev.oM) rfl rfl rfl ?_
   repeat first|refine go ?_|with_reducible intro _
   refine Wk.iaP (a) rfl rfl rfl rfl Ev.rM rfl rfl Ev.wM Ev.wM ?_
   refine Wk.loadOlp (cs:=[_]) rfl rfl Ev.rM (Go.Proofs.J.ic_get Ev.oM) rfl rfl rfl ?_
   repeat first|refine go ?_|with_reducible intro _
   refine Wk.call rfl rfl (Spl.none _) (sLess) Ev.cM rfl rfl ?_
   rintro v' Z' A' hz ⟨rfl,rfl,rfl⟩
   repeat first|refine go ?_|with_reducible intro _
   exact Wk.inv ⟨rfl,rfl,rfl,rfl,rfl,rfl,rfl,and_l hle,trivial⟩
  ·have hle:¬ i2≤j2:=by simp at hc;omega
   clear hc
   repeat first|refine go ?_|with_reducible intro _
   exact Wk.inv ⟨rfl,rfl,rfl,rfl,rfl,rfl,rfl,and_f hle,trivial⟩
 rintro L Z' A' - ⟨rfl,rfl,hk⟩
 refine Wk.kp hk ?_
 clear hk
 refine Wk.cond rfl (fun hc=>?_) (fun hc=>?_)
 ·have:i2≤j2:=by simp at hc;exact hc.1
  obtain ⟨r,rfl⟩:∃ r,j2=r+1:=⟨j2 - 1,by omega⟩
  have e1:=down_go (p:=fun x=>!ltInt x e[a]!) hc
  repeat first|refine go ?_|with_reducible intro _
  exact Wk.inv ⟨_,by omega,r,by omega,by omega,rfl,rfl,rfl,by rw [←hg,e1],Ev.kM⟩
 have hJ:=hg.symm.trans (down_stop (p:=fun x=>!ltInt x e[a]!) Ev.wM hc)
 clear hg hc hmm
 rw [hJ] at hR
 repeat first|refine go ?_|with_reducible intro _
 refine Wk.cond rfl (fun hc=>?_) (fun hc=>?_)
 ·rw [if_pos (by simp at hc;omega)] at hR
  rw [←hR]
  repeat first|refine go ?_|with_reducible intro _
  refine Wk.drawr (ms:=[0,0,0,0,0,0,48,112,0,0,768,1792,4083,8179,16383,32767]) (l:=[0,1,2,3,4,5,6,7,8,9,10,11,12,13,14,15]) Ev.cM Ev.cM Ev.cM rfl ?_
  repeat first|refine go ?_|with_reducible intro _
  refine Wk.iaP (a) rfl rfl rfl rfl Ev.rM rfl rfl Ev.wM Ev.wM ?_
  refine Wk.loadOlp (cs:=[_]) rfl rfl Ev.rM (Go.Proofs.J.ic_get Ev.oM) rfl rfl rfl ?_
  repeat first|refine go ?_|with_reducible intro _
  refine Wk.iaP (j2) rfl rfl rfl rfl Ev.rM rfl rfl Ev.wM Ev.wM ?_
  refine Wk.loadOlp (cs:=[_]) rfl rfl Ev.rM (Go.Proofs.J.ic_get Ev.oM) rfl rfl rfl ?_
  repeat first|refine go ?_|with_reducible intro _
  refine Wk.iaP (j2) rfl rfl rfl rfl Ev.rM rfl rfl Ev.wM Ev.wM ?_
  refine Wk.storeOlp rfl rfl rfl rfl rfl Ev.rM (Go.Proofs.J.ic_set Ev.oM) Ev.cM rfl ?_
  refine Wk.iaP (a) rfl rfl rfl rfl Ev.rM rfl rfl Ev.wM Ev.wM ?_
  refine Wk.storeOlp rfl rfl rfl rfl rfl Ev.rM (Go.Proofs.J.ic_set Ev.oM) Ev.cM rfl ?_
  repeat first|refine go ?_|with_reducible intro _
  refine Wk.ret ⟨_,Rs.tmp rfl (Rs.tmp rfl Rs.nil),_,Sub.refl _,rfl,rfl,rfl⟩
 have hij2:i2≤j2:=by simp at hc;omega
 rw [if_neg Ev.wM] at hR
 clear hc
 obtain ⟨r,rfl⟩:∃ r,j2=r+1:=⟨j2 - 1,by omega⟩
 rw [Nat.add_sub_cancel] at hR
 repeat first|refine go ?_|with_reducible intro _
 refine Wk.drawr (ms:=[0,0,0,0,0,0,48,112,0,0,768,1792,4083,8179,16383,32767]) (l:=[0,1,2,3,4,5,6,7,8,9,10,11,12,13,14,15]) Ev.cM Ev.cM Ev.cM rfl ?_
 repeat first|refine go ?_|with_reducible intro _
 refine Wk.iaP (r+1) rfl rfl rfl rfl Ev.rM rfl rfl Ev.wM Ev.wM ?_
 refine Wk.loadOlp (cs:=[_]) rfl rfl Ev.rM (Go.Proofs.J.ic_get Ev.oM) rfl rfl rfl ?_
 repeat first|refine go ?_|with_reducible intro _
 refine Wk.iaP (i2) rfl rfl rfl rfl Ev.rM rfl rfl Ev.wM Ev.wM ?_
 refine Wk.loadOlp (cs:=[_]) rfl rfl Ev.rM (Go.Proofs.J.ic_get Ev.oM) rfl rfl rfl ?_
 repeat first|refine go ?_|with_reducible intro _
 refine Wk.iaP (i2) rfl rfl rfl rfl Ev.rM rfl rfl Ev.wM Ev.wM ?_
 refine Wk.storeOlp rfl rfl rfl rfl rfl Ev.rM (Go.Proofs.J.ic_set Ev.oM) Ev.cM rfl ?_
 refine Wk.iaP (r+1) rfl rfl rfl rfl Ev.rM rfl rfl Ev.wM Ev.wM ?_
 refine Wk.storeOlp rfl rfl rfl rfl rfl Ev.rM (Go.Proofs.J.ic_set Ev.oM) Ev.cM rfl ?_
 repeat first|refine go ?_|with_reducible intro _
 exact Wk.inv ⟨_,by omega,i2+1,r,swp e i2 (r+1),by omega,by omega,by omega,rfl,rfl,rfl,by rw [Go.Sort.swp_size];exact he,hR,Ev.kM⟩
end Go.Proofs.J
namespace Go.Proofs.J
open Go.Ev Go Go.Sort
theorem partitionEq_ {Z:Zone} {v:Value} {b0 n a b p:Nat} {d:Array Int} (hn:d.size=n) (hp1:a≤p) (hp2:p < b) (hb:b≤n) (hs:n≤1000000) :
  Cz M (.func (.func 194) #[] #[]) [v,.int .i64 a,.int .i64 b,.int .i64 p] Z [olp b0 1 v n (ic d)] (fun v' Z' A'=>v'=.int .i64 (partitionEqual ltInt d a b p).1∧Z=Z'∧A'=[olp b0 1 v n (ic (partitionEqual ltInt d a b p).2)]):=by
 have hP:partitionEqual ltInt d a b p=partEqLoop ltInt a (a+1) (b - 1) (swp d a p):=rfl
 rw [hP]
 refine Cz.fn (f:=Tryz.f194) Ev.cM rfl rfl rfl _ rfl ?_
 repeat first|refine go ?_|with_reducible intro _
 refine Wk.drawr (ms:=[0,0,0,0,0,0,48,112,0,0,768,1792,4083,8179,16383,32767]) (l:=[0,1,2,3,4,5,6,7,8,9,10,11,12,13,14,15]) Ev.cM Ev.cM Ev.cM rfl ?_
 repeat first|refine go ?_|with_reducible intro _
 refine Wk.iaP (p) rfl rfl rfl rfl Ev.rM rfl rfl Ev.wM Ev.wM ?_
 refine Wk.loadOlp (cs:=[_]) rfl rfl Ev.rM (Go.Proofs.J.ic_get Ev.oM) rfl rfl rfl ?_
 repeat first|refine go ?_|with_reducible intro _
 refine Wk.iaP (a) rfl rfl rfl rfl Ev.rM rfl rfl Ev.wM Ev.wM ?_
 refine Wk.loadOlp (cs:=[_]) rfl rfl Ev.rM (Go.Proofs.J.ic_get Ev.oM) rfl rfl rfl ?_
 repeat first|refine go ?_|with_reducible intro _
 refine Wk.iaP (a) rfl rfl rfl rfl Ev.rM rfl rfl Ev.wM Ev.wM ?_
 refine Wk.storeOlp rfl rfl rfl rfl rfl Ev.rM (Go.Proofs.J.ic_set Ev.oM) Ev.cM rfl ?_
 refine Wk.iaP (p) rfl rfl rfl rfl Ev.rM rfl rfl Ev.wM Ev.wM ?_
 refine Wk.storeOlp rfl rfl rfl rfl rfl Ev.rM (Go.Proofs.J.ic_set Ev.oM) Ev.cM rfl ?_
 repeat first|refine go ?_|with_reducible intro _
 refine Wk.loop (fun mm L Z' A'=>∃ (i' j':Nat) (e:Array Int),a+1≤i'∧i'≤j'+2∧j' < b∧mm=b+2 - i'∧Z=Z'∧A'=[olp b0 1 v n (ic e)]∧e.size=n∧partEqLoop ltInt a i' j' e=partEqLoop ltInt a (a+1) (b - 1) (swp d a p)∧Kp L [(0,v),(1,.int .i64 a),(2,.int .i64 b),(9,.int .i64 i'),(10,.int .i64 j')]) (b+2 - (a+1)) ⟨a+1,b - 1,swp d a p,by omega,by omega,by omega,rfl,rfl,rfl,by rw [Go.Sort.swp_size];exact hn,rfl,Ev.kM⟩ ?_
 rintro mm L Z' A' - ⟨i',j',e,hi1',hi2',hj1',rfl,rfl,rfl,he,hR,hk⟩
 refine Wk.kp hk ?_
 clear hk
 rw [partEqLoop_eq] at hR
 repeat first|refine go ?_|with_reducible intro _
 refine Wk.loop (fun mm2 L Z' A'=>∃ i2:Nat,i'≤i2∧i2≤max i' (j'+1)∧mm2=b+2 - i2∧Z=Z'∧A'=[olp b0 1 v n (ic e)]∧scanUp (fun x=>!ltInt e[a]! x) e j' i2=scanUp (fun x=>!ltInt e[a]! x) e j' i'∧Kp L [(0,v),(1,.int .i64 a),(2,.int .i64 b),(9,.int .i64 i2),(10,.int .i64 j')]) (b+2 - i') ⟨i',Nat.le_refl _,by omega,rfl,rfl,rfl,rfl,Ev.kM⟩ ?_
 rintro mm2 L Z' A' - ⟨i2,hi3,hi4,rfl,rfl,rfl,hf,hk⟩
 refine Wk.kp hk ?_
 clear hk
 repeat first|refine go ?_|with_reducible intro _
 refine Wk.drawr (ms:=[0,0,3,7,15,15,63,127,15,15,783,1807,4095,8191,16383]) (l:=[0,1,2,3,4,5,6,7,8,9,10,11,12,13,14]) Ev.cM Ev.cM Ev.cM rfl ?_
 repeat first|refine go ?_|with_reducible intro _
 refine Wk.cutr (fun L Z' A'=>Z=Z'∧A'=[olp b0 1 v n (ic e)]∧Kp L [(0,v),(1,.int .i64 a),(2,.int .i64 b),(9,.int .i64 i2),(10,.int .i64 j'),(43,.bool (decide (i2≤j')&&!ltInt e[a]! e[i2]!))]) ?_ ?_
 ·refine Wk.caser 32 rfl (fun hc=>?_) (fun hc=>?_)
  ·have hle:i2≤j':=by simp at hc;omega
   clear hc
   repeat first|refine go ?_|with_reducible intro _
   refine Wk.iaP (a) rfl rfl rfl rfl Ev.rM rfl rfl Ev.wM Ev.wM ?_
   refine Wk.loadOlp (cs:=[_]) rfl rfl Ev.rM (Go.Proofs.J.ic_get Ev.oM) rfl rfl rfl ?_
   repeat first|refine go ?_|with_reducible intro _
   refine Wk.iaP (i2) rfl rfl rfl rfl Ev.rM rfl rfl Ev.wM Ev.wM ?_
   refine Wk.loadOlp (cs:=[_]) rfl rfl Ev.rM (Go.Proofs.J.ic_get Ev.oM) rfl rfl rfl ?_
   repeat first|refine go ?_|with_reducible intro _
   refine Wk.call rfl rfl (Spl.none _) (sLess) Ev.cM rfl rfl ?_
   rintro v' Z' A' hz ⟨rfl,rfl,rfl⟩
   repeat first|refine go ?_|with_reducible intro _
   exact Wk.inv ⟨rfl,rfl,rfl,rfl,rfl,rfl,rfl,and_l hle,trivial⟩
  ·have hle:¬ i2≤j':=by simp at hc;omega
   clear hc
   repeat first|refine go ?_|with_reducible intro _
   exact Wk.inv ⟨rfl,rfl,rfl,rfl,rfl,rfl,rfl,and_f hle,trivial⟩
 rintro L Z' A' - ⟨rfl,rfl,hk⟩
 refine Wk.kp hk ?_
 clear hk
 refine Wk.cond rfl (fun hc=>?_) (fun hc=>?_)
 ·have e1:=up_go (p:=fun x=>!ltInt e[a]! x) hc
  have:i2≤j':=by simp at hc;exact hc.1
  repeat first|refine go ?_|with_reducible intro _
  exact Wk.inv ⟨_,by omega,i2+1,by omega,by omega,rfl,rfl,rfl,by rw [←hf,e1],Ev.kM⟩
 have hI:=hf.symm.trans (up_stop (p:=fun x=>!ltInt e[a]! x) hc)
 clear hf hc
 rw [hI] at hR
 repeat first|refine go ?_|with_reducible intro _
 refine Wk.loop (fun mm2 L Z' A'=>∃ j2:Nat,j2≤j'∧(i2≤j2+1∨j2=j')∧mm2=j2∧Z=Z'∧A'=[olp b0 1 v n (ic e)]∧scanDown (fun x=>ltInt e[a]! x) e i2 j2=scanDown (fun x=>ltInt e[a]! x) e i2 j'∧Kp L [(0,v),(1,.int .i64 a),(2,.int .i64 b),(9,.int .i64 i2),(10,.int .i64 j2)]) j' ⟨j',Nat.le_refl _,.inr rfl,rfl,rfl,rfl,rfl,Ev.kM⟩ ?_
 rintro mm2 L Z' A' - ⟨j2,hj3,hj4,hmm,rfl,rfl,hg,hk⟩
 refine Wk.kp hk ?_
 clear hk
 repeat first|refine go ?_|with_reducible intro _
 refine Wk.drawr (ms:=[0,0,3,7,15,15,63,127,15,15,783,1807,4095,8191]) (l:=[0,1,2,3,4,5,6,7,8,9,10,11,12,13]) Ev.cM Ev.cM Ev.cM rfl ?_
 repeat first|refine go ?_|with_reducible intro _
 refine Wk.cutr (fun L Z' A'=>Z=Z'∧A'=[olp b0 1 v n (ic e)]∧Kp L [(0,v),(1,.int .i64 a),(2,.int .i64 b),(9,.int .i64 i2),(10,.int .i64 j2),(59,.bool (decide (i2≤j2)&&ltInt e[a]! e[j2]!))]) ?_ ?_
 ·refine Wk.caser 49 rfl (fun hc=>?_) (fun hc=>?_)
  ·have hle:i2≤j2:=by simp at hc;omega
   clear hc
   repeat first|refine go ?_|with_reducible intro _
   refine Wk.iaP (a) rfl rfl rfl rfl Ev.rM rfl rfl Ev.wM Ev.wM ?_
   refine Wk.loadOlp (cs:=[_]) rfl rfl Ev.rM (Go.Proofs.J.ic_get Ev.oM) rfl rfl rfl ?_
   repeat first|refine go ?_|with_reducible intro _
   refine Wk.iaP (j2) rfl rfl rfl rfl Ev.rM rfl rfl Ev.wM Ev.wM ?_
   refine Wk.loadOlp (cs:=[_]) rfl rfl Ev.rM (Go.Proofs.J.ic_get Ev.oM) rfl rfl rfl ?_
   repeat first|refine go ?_|with_reducible intro _
   refine Wk.call rfl rfl (Spl.none _) (sLess) Ev.cM rfl rfl ?_
   rintro v' Z' A' hz ⟨rfl,rfl,rfl⟩
   repeat first|refine go ?_|with_reducible intro _
   exact Wk.inv ⟨rfl,rfl,rfl,rfl,rfl,rfl,rfl,and_l hle,trivial⟩
  ·have hle:¬ i2≤j2:=by simp at hc;omega
   clear hc
   repeat first|refine go ?_|with_reducible intro _
   exact Wk.inv ⟨rfl,rfl,rfl,rfl,rfl,rfl,rfl,and_f hle,trivial⟩
 rintro L Z' A' - ⟨rfl,rfl,hk⟩
 refine Wk.kp hk ?_
 clear hk
 refine Wk.cond rfl (fun hc=>?_) (fun hc=>?_)
 ·have:i2≤j2:=by simp at hc;exact hc.1
  obtain ⟨r,rfl⟩:∃ r,j2=r+1:=⟨j2 - 1,by omega⟩
  have e1:=down_go (p:=fun x=>ltInt e[a]! x) hc
  repeat first|refine go ?_|with_reducible intro _
  exact Wk.inv ⟨_,by omega,r,by omega,by omega,rfl,rfl,rfl,by rw [←hg,e1],Ev.kM⟩
 have hJ:=hg.symm.trans (down_stop (p:=fun x=>ltInt e[a]! x) Ev.wM hc)
 clear hg hc hmm
 rw [hJ] at hR
 repeat first|refine go ?_|with_reducible intro _
 refine Wk.cond rfl (fun hc=>?_) (fun hc=>?_)
 ·rw [if_pos (by simp at hc;omega)] at hR
  rw [←hR]
  repeat first|refine go ?_|with_reducible intro _
  refine Wk.ret ⟨_,Rs.tmp rfl Rs.nil,_,Sub.refl _,rfl,rfl,rfl⟩
 have hij2:i2≤j2:=by simp at hc;omega
 rw [if_neg Ev.wM] at hR
 clear hc
 obtain ⟨r,rfl⟩:∃ r,j2=r+1:=⟨j2 - 1,by omega⟩
 rw [Nat.add_sub_cancel] at hR
 repeat first|refine go ?_|with_reducible intro _
 refine Wk.drawr (ms:=[0,0,0,0,0,0,48,112,0,0,768,1792,4083,8179,16383,32767]) (l:=[0,1,2,3,4,5,6,7,8,9,10,11,12,13,14,15]) Ev.cM Ev.cM Ev.cM rfl ?_
 repeat first|refine go ?_|with_reducible intro _
 refine Wk.iaP (r+1) rfl rfl rfl rfl Ev.rM rfl rfl Ev.wM Ev.wM ?_
 refine Wk.loadOlp (cs:=[_]) rfl rfl Ev.rM (Go.Proofs.J.ic_get Ev.oM) rfl rfl rfl ?_
 repeat first|refine go ?_|with_reducible intro _
 refine Wk.iaP (i2) rfl rfl rfl rfl Ev.rM rfl rfl Ev.wM Ev.wM ?_
 refine Wk.loadOlp (cs:=[_]) rfl rfl Ev.rM (Go.Proofs.J.ic_get Ev.oM) rfl rfl rfl ?_
 repeat first|refine go ?_|with_reducible intro _
 refine Wk.iaP (i2) rfl rfl rfl rfl Ev.rM rfl rfl Ev.wM Ev.wM ?_
 refine Wk.storeOlp rfl rfl rfl rfl rfl Ev.rM (Go.Proofs.J.ic_set Ev.oM) Ev.cM rfl ?_
 refine Wk.iaP (r+1) rfl rfl rfl rfl Ev.rM rfl rfl Ev.wM Ev.wM ?_
 refine Wk.storeOlp rfl rfl rfl rfl rfl Ev.rM (Go.Proofs.J.ic_set Ev.oM) Ev.cM rfl ?_
 repeat first|refine go ?_|with_reducible intro _
 exact Wk.inv ⟨_,by omega,i2+1,r,swp e i2 (r+1),by omega,by omega,by omega,rfl,rfl,rfl,by rw [Go.Sort.swp_size];exact he,hR,Ev.kM⟩
theorem sorted_go {d:Array Int} {b i:Nat} (h:(decide (i < b)&&!ltInt d[i]! d[i - 1]!)=true):scanSorted ltInt d b i=scanSorted ltInt d b (i+1):=by rw [scanSorted,if_pos h]
theorem sorted_stop {d:Array Int} {b i:Nat} (h:(decide (i < b)&&!ltInt d[i]! d[i - 1]!)=false):scanSorted ltInt d b i=i:=by rw [scanSorted,if_neg (by rw [h];simp)]
theorem shiftDown_size:∀ {j:Nat} {d:Array Int},(shiftDown ltInt j d).size=d.size
 | 0,d=>rfl
 | j+1,d=>by
  rw [shiftDown]
  split
  ·rfl
  ·rw [shiftDown_size,Go.Sort.swp_size]
theorem shiftUp_size:∀ (k:Nat) {b j:Nat} {d:Array Int},b - j≤k→(shiftUp ltInt b j d).size=d.size
 | 0,b,j,d,h=>by rw [shiftUp,if_neg Ev.wM]
 | k+1,b,j,d,h=>by
  rw [shiftUp]
  split
  ·split
   ·rfl
   ·rw [shiftUp_size k Ev.wM,Go.Sort.swp_size]
  ·rfl
theorem partialIns_ {Z:Zone} {v:Value} {b0 n a b:Nat} {d:Array Int} (hn:d.size=n) (hab:a < b) (hb:b≤n) (hs:n≤1000000) :
  Cz M (.func (.func 192) #[] #[]) [v,.int .i64 a,.int .i64 b] Z [olp b0 1 v n (ic d)] (fun v' Z' A'=>v'=.bool (partialInsertionSort ltInt d a b).2∧Z=Z'∧A'=[olp b0 1 v n (ic (partialInsertionSort ltInt d a b).1)]):=by
 have hP:partialInsertionSort ltInt d a b=partialIns ltInt a b 5 (a+1) d:=rfl
 rw [hP]
 refine Cz.fn (f:=Tryz.f192) Ev.cM rfl rfl rfl _ rfl ?_
 repeat first|refine go ?_|with_reducible intro _
 refine Wk.loop (fun mm L Z' A'=>∃ (s i:Nat) (e:Array Int),s≤5∧a+1≤i∧i≤b∧mm=5 - s∧Z=Z'∧A'=[olp b0 1 v n (ic e)]∧e.size=n∧partialIns ltInt a b (5 - s) i e=partialIns ltInt a b 5 (a+1) d∧Kp L [(0,v),(1,.int .i64 a),(2,.int .i64 b),(7,.int .i64 i),(8,.int .i64 s)]) 5 ⟨0,a+1,d,by omega,Nat.le_refl _,by omega,rfl,rfl,rfl,hn,rfl,Ev.kM⟩ ?_
 rintro mm L Z' A' - ⟨s,i,e,hs5,hi1,hi2,rfl,rfl,rfl,he,hR,hk⟩
 refine Wk.kp hk ?_
 clear hk
 repeat first|refine go ?_|with_reducible intro _
 refine Wk.cond rfl (fun hc=>?_) (fun hc=>?_)
 rotate_left
 ·obtain rfl:s=5:=by simp at hc;omega
  rw [←hR]
  repeat first|refine go ?_|with_reducible intro _
  refine Wk.ret ⟨_,Rs.tmp rfl Rs.nil,_,Sub.refl _,rfl,rfl,rfl⟩
 have hs4:s < 5:=by simp at hc;omega
 clear hc
 obtain ⟨q,hq⟩:∃ q,5 - s=q+1:=⟨4 - s,by omega⟩
 rw [hq,partialIns_succ] at hR
 repeat first|refine go ?_|with_reducible intro _
 refine Wk.loop (fun mm2 L Z' A'=>∃ i2:Nat,i≤i2∧i2≤b∧mm2=b - i2∧Z=Z'∧A'=[olp b0 1 v n (ic e)]∧scanSorted ltInt e b i2=scanSorted ltInt e b i∧Kp L [(0,v),(1,.int .i64 a),(2,.int .i64 b),(7,.int .i64 i2),(8,.int .i64 s)]) (b - i) ⟨i,Nat.le_refl _,hi2,rfl,rfl,rfl,rfl,Ev.kM⟩ ?_
 rintro mm2 L Z' A' - ⟨i2,hi3,hi4,rfl,rfl,rfl,hf,hk⟩
 refine Wk.kp hk ?_
 clear hk
 repeat first|refine go ?_|with_reducible intro _
 refine Wk.drawr (ms:=[0,0,3,7,15,15,63,127,15,15,527,1807,3855,8191,16383,32767]) (l:=[0,1,2,3,4,5,6,7,8,9,10,11,12,13,14,15]) Ev.cM Ev.cM Ev.cM rfl ?_
 repeat first|refine go ?_|with_reducible intro _
 refine Wk.cutr (fun L Z' A'=>Z=Z'∧A'=[olp b0 1 v n (ic e)]∧Kp L [(0,v),(1,.int .i64 a),(2,.int .i64 b),(7,.int .i64 i2),(8,.int .i64 s),(32,.bool (decide (i2 < b)&&!ltInt e[i2]! e[i2 - 1]!))]) ?_ ?_
 ·refine Wk.caser 20 rfl (fun hc=>?_) (fun hc=>?_)
  ·have hle:(i2 < b):=by simp at hc;omega
   clear hc
   repeat first|refine go ?_|with_reducible intro _
   refine Wk.iaP (i2) rfl rfl rfl rfl Ev.rM rfl rfl Ev.wM Ev.wM ?_
   refine Wk.loadOlp (cs:=[_]) rfl rfl Ev.rM (Go.Proofs.J.ic_get Ev.oM) rfl rfl rfl ?_
   repeat first|refine go ?_|with_reducible intro _
   refine Wk.iaP (i2 - 1) rfl rfl rfl rfl Ev.rM rfl rfl Ev.wM Ev.wM ?_
   refine Wk.loadOlp (cs:=[_]) rfl rfl Ev.rM (Go.Proofs.J.ic_get Ev.oM) rfl rfl rfl ?_
   repeat first|refine go ?_|with_reducible intro _
   refine Wk.call rfl rfl (Spl.none _) (sLess) Ev.cM rfl rfl ?_
   rintro v' Z' A' hz ⟨rfl,rfl,rfl⟩
   repeat first|refine go ?_|with_reducible intro _
   exact Wk.inv ⟨rfl,rfl,rfl,rfl,rfl,rfl,rfl,and_l hle,trivial⟩
  ·have hle:¬ (i2 < b):=by simp at hc;omega
   clear hc
   repeat first|refine go ?_|with_reducible intro _
   exact Wk.inv ⟨rfl,rfl,rfl,rfl,rfl,rfl,rfl,and_f hle,trivial⟩
 rintro L Z' A' - ⟨rfl,rfl,hk⟩
 refine Wk.kp hk ?_
 clear hk
 refine Wk.cond rfl (fun hc=>?_) (fun hc=>?_)
 ·have e1:=sorted_go hc
  have:i2 < b:=by simp at hc;exact hc.1
  repeat first|refine go ?_|with_reducible intro _
  exact Wk.inv ⟨_,by omega,i2+1,by omega,by omega,rfl,rfl,rfl,by rw [←hf,e1],Ev.kM⟩
 have hI:=hf.symm.trans (sorted_stop hc)
 clear hf hc
 rw [hI] at hR
 repeat first|refine go ?_|with_reducible intro _
 refine Wk.cond rfl (fun hc=>?_) (fun hc=>?_)
 ·rw [if_pos (by simp at hc;omega)] at hR
  rw [←hR]
  repeat first|refine go ?_|with_reducible intro _
  refine Wk.ret ⟨_,Rs.tmp rfl Rs.nil,_,Sub.refl _,rfl,rfl,rfl⟩
 have hib:i2 < b:=by simp at hc;omega
 rw [if_neg Ev.wM] at hR
 clear hc
 repeat first|refine go ?_|with_reducible intro _
 refine Wk.cond rfl (fun hc=>?_) (fun hc=>?_)
 ·rw [if_pos (by simp at hc;omega)] at hR
  rw [←hR]
  repeat first|refine go ?_|with_reducible intro _
  refine Wk.ret ⟨_,Rs.tmp rfl Rs.nil,_,Sub.refl _,rfl,rfl,rfl⟩
 rw [if_neg (by simp at hc;omega)] at hR
 clear hc
 obtain ⟨e1,he1⟩:∃ e1,e1=swp e i2 (i2 - 1):=⟨_,rfl⟩
 have hs1:e1.size=n:=by rw [he1,Go.Sort.swp_size];exact he
 rw [←he1] at hR
 repeat first|refine go ?_|with_reducible intro _
 refine Wk.drawr (ms:=[0,0,0,0,8,0,0,64,224,480,0,0,3072,7168,16355,32739,65535,131071]) (l:=[0,1,2,3,4,5,6,7,8,9,10,11,12,13,14,15,16,17]) Ev.cM Ev.cM Ev.cM rfl ?_
 repeat first|refine go ?_|with_reducible intro _
 refine Wk.iaP (i2 - 1) rfl rfl rfl rfl Ev.rM rfl rfl Ev.wM Ev.wM ?_
 refine Wk.loadOlp (cs:=[_]) rfl rfl Ev.rM (Go.Proofs.J.ic_get Ev.oM) rfl rfl rfl ?_
 repeat first|refine go ?_|with_reducible intro _
 refine Wk.iaP (i2) rfl rfl rfl rfl Ev.rM rfl rfl Ev.wM Ev.wM ?_
 refine Wk.loadOlp (cs:=[_]) rfl rfl Ev.rM (Go.Proofs.J.ic_get Ev.oM) rfl rfl rfl ?_
 repeat first|refine go ?_|with_reducible intro _
 refine Wk.iaP (i2) rfl rfl rfl rfl Ev.rM rfl rfl Ev.wM Ev.wM ?_
 refine Wk.storeOlp rfl rfl rfl rfl rfl Ev.rM (Go.Proofs.J.ic_set Ev.oM) Ev.cM rfl ?_
 refine Wk.iaP (i2 - 1) rfl rfl rfl rfl Ev.rM rfl rfl Ev.wM Ev.wM ?_
 refine Wk.storeOlp rfl rfl rfl rfl rfl Ev.rM (Go.Proofs.J.ic_set Ev.oM) Ev.cM rfl ?_
 repeat first|refine go ?_|with_reducible intro _
 refine Wk.cut (fun L Z' A'=>Z=Z'∧A'=[olp b0 1 v n (ic (fixDown ltInt a i2 e1))]∧Kp L [(0,v),(1,.int .i64 a),(2,.int .i64 b),(7,.int .i64 i2),(8,.int .i64 s)]) ?_ ?_
 ·refine Wk.cond rfl (fun hc=>?_) (fun hc=>?_)
  ·have hF:fixDown ltInt a i2 e1=shiftDown ltInt (i2 - 1) e1:=by unfold fixDown;rw [if_pos (by simp at hc;omega)]
   rw [hF]
   clear hc
   repeat first|refine go ?_|with_reducible intro _
   refine Wk.loop (fun mm2 L Z' A'=>∃ (j:Nat) (e':Array Int),j≤i2 - 1∧mm2=j∧Z=Z'∧A'=[olp b0 1 v n (ic e')]∧e'.size=n∧shiftDown ltInt j e'=shiftDown ltInt (i2 - 1) e1∧Kp L [(0,v),(1,.int .i64 a),(2,.int .i64 b),(7,.int .i64 i2),(8,.int .i64 s),(9,.int .i64 j)]) (i2 - 1) ⟨i2 - 1,e1,Nat.le_refl _,rfl,rfl,by rw [he1];rfl,hs1,rfl,Ev.kM⟩ ?_
   rintro mm2 L Z' A' - ⟨j,e',hj,hmm,rfl,rfl,he',hg,hk⟩
   refine Wk.kp hk ?_
   clear hk
   repeat first|refine go ?_|with_reducible intro _
   refine Wk.cond rfl (fun hc=>?_) (fun hc=>?_)
   rotate_left
   ·obtain rfl:j=0:=by simp at hc;omega
    repeat first|refine go ?_|with_reducible intro _
    exact Wk.inv ⟨rfl,(by rw [←hg];try rfl),Ev.kM⟩
   obtain ⟨r,rfl⟩:∃ r,j=r+1:=⟨j - 1,by simp at hc;omega⟩
   clear hc
   rw [shiftDown] at hg
   repeat first|refine go ?_|with_reducible intro _
   refine Wk.drawr (ms:=[0,0,3,7,0,0,32,112,240,511,1023]) (l:=[0,1,2,3,4,5,6,7,8,9,10]) Ev.cM Ev.cM Ev.cM rfl ?_
   repeat first|refine go ?_|with_reducible intro _
   refine Wk.iaP (r+1) rfl rfl rfl rfl Ev.rM rfl rfl Ev.wM Ev.wM ?_
   refine Wk.loadOlp (cs:=[_]) rfl rfl Ev.rM (Go.Proofs.J.ic_get Ev.oM) rfl rfl rfl ?_
   repeat first|refine go ?_|with_reducible intro _
   refine Wk.iaP (r) rfl rfl rfl rfl Ev.rM rfl rfl Ev.wM Ev.wM ?_
   refine Wk.loadOlp (cs:=[_]) rfl rfl Ev.rM (Go.Proofs.J.ic_get Ev.oM) rfl rfl rfl ?_
   repeat first|refine go ?_|with_reducible intro _
   refine Wk.call rfl rfl (Spl.none _) (sLess) Ev.cM rfl rfl ?_
   rintro v' Z' A' hz ⟨rfl,rfl,rfl⟩
   repeat first|refine go ?_|with_reducible intro _
   refine Wk.cond rfl (fun hc=>?_) (fun hc=>?_)
   ·rw [if_pos hc] at hg
    repeat first|refine go ?_|with_reducible intro _
    exact Wk.inv ⟨rfl,(by rw [←hg];try rfl),Ev.kM⟩
   rw [if_neg (by rw [hc];simp)] at hg
   repeat first|refine go ?_|with_reducible intro _
   refine Wk.drawr (ms:=[0,0,0,0,8,0,0,64,224,480,0,0,3072,7168,16355,32739,65535,131071]) (l:=[0,1,2,3,4,5,6,7,8,9,10,11,12,13,14,15,16,17]) Ev.cM Ev.cM Ev.cM rfl ?_
   repeat first|refine go ?_|with_reducible intro _
   refine Wk.iaP (r) rfl rfl rfl rfl Ev.rM rfl rfl Ev.wM Ev.wM ?_
   refine Wk.loadOlp (cs:=[_]) rfl rfl Ev.rM (Go.Proofs.J.ic_get Ev.oM) rfl rfl rfl ?_
   repeat first|refine go ?_|with_reducible intro _
   refine Wk.iaP (r+1) rfl rfl rfl rfl Ev.rM rfl rfl Ev.wM Ev.wM ?_
   refine Wk.loadOlp (cs:=[_]) rfl rfl Ev.rM (Go.Proofs.J.ic_get Ev.oM) rfl rfl rfl ?_
   repeat first|refine go ?_|with_reducible intro _
   refine Wk.iaP (r+1) rfl rfl rfl rfl Ev.rM rfl rfl Ev.wM Ev.wM ?_
   refine Wk.storeOlp rfl rfl rfl rfl rfl Ev.rM (Go.Proofs.J.ic_set Ev.oM) Ev.cM rfl ?_
   refine Wk.iaP (r) rfl rfl rfl rfl Ev.rM rfl rfl Ev.wM Ev.wM ?_
   refine Wk.storeOlp rfl rfl rfl rfl rfl Ev.rM (Go.Proofs.J.ic_set Ev.oM) Ev.cM rfl ?_
   repeat first|refine go ?_|with_reducible intro _
   exact Wk.inv ⟨_,by omega,r,swp e' (r+1) r,by omega,rfl,rfl,rfl,by rw [Go.Sort.swp_size];exact he',hg,Ev.kM⟩
  ·have hF:fixDown ltInt a i2 e1=e1:=by unfold fixDown;rw [if_neg (by simp at hc;omega)]
   rw [hF]
   repeat first|refine go ?_|with_reducible intro _
   exact Wk.inv ⟨rfl,by rw [he1];rfl,Ev.kM⟩
 rintro L Z' A' - ⟨rfl,rfl,hk⟩
 refine Wk.kp hk ?_
 clear hk
 obtain ⟨e2,he2⟩:∃ e2,e2=fixDown ltInt a i2 e1:=⟨_,rfl⟩
 have hs2:e2.size=n:=by
  rw [he2];unfold fixDown
  split
  ·rw [shiftDown_size];exact hs1
  ·exact hs1
 rw [←he2] at hR ⊢
 repeat first|refine go ?_|with_reducible intro _
 refine Wk.cut (fun L Z' A'=>Z=Z'∧A'=[olp b0 1 v n (ic (fixUp ltInt b i2 e2))]∧Kp L [(0,v),(1,.int .i64 a),(2,.int .i64 b),(7,.int .i64 i2),(8,.int .i64 s)]) ?_ ?_
 ·refine Wk.cond rfl (fun hc=>?_) (fun hc=>?_)
  ·have hF:fixUp ltInt b i2 e2=shiftUp ltInt b (i2+1) e2:=by unfold fixUp;rw [if_pos (by simp at hc;omega)]
   rw [hF]
   clear hc
   repeat first|refine go ?_|with_reducible intro _
   refine Wk.loop (fun mm2 L Z' A'=>∃ (j:Nat) (e':Array Int),i2+1≤j∧j≤b+1∧mm2=b+1 - j∧Z=Z'∧A'=[olp b0 1 v n (ic e')]∧e'.size=n∧shiftUp ltInt b j e'=shiftUp ltInt b (i2+1) e2∧Kp L [(0,v),(1,.int .i64 a),(2,.int .i64 b),(7,.int .i64 i2),(8,.int .i64 s),(10,.int .i64 j)]) (b+1 - (i2+1)) ⟨i2+1,e2,Nat.le_refl _,by omega,rfl,rfl,rfl,hs2,rfl,Ev.kM⟩ ?_
   rintro mm2 L Z' A' - ⟨j,e',hj,hj2,rfl,rfl,rfl,he',hg,hk⟩
   refine Wk.kp hk ?_
   clear hk
   rw [shiftUp] at hg
   repeat first|refine go ?_|with_reducible intro _
   refine Wk.cond rfl (fun hc=>?_) (fun hc=>?_)
   rotate_left
   ·rw [if_neg (by simp at hc;omega)] at hg
    repeat first|refine go ?_|with_reducible intro _
    exact Wk.inv ⟨rfl,(by rw [←hg];try rfl),Ev.kM⟩
   have hjb:j < b:=by simp at hc;omega
   rw [if_pos hjb] at hg
   clear hc
   repeat first|refine go ?_|with_reducible intro _
   refine Wk.drawr (ms:=[0,0,3,7,0,0,32,112,240,511,1023]) (l:=[0,1,2,3,4,5,6,7,8,9,10]) Ev.cM Ev.cM Ev.cM rfl ?_
   repeat first|refine go ?_|with_reducible intro _
   refine Wk.iaP (j) rfl rfl rfl rfl Ev.rM rfl rfl Ev.wM Ev.wM ?_
   refine Wk.loadOlp (cs:=[_]) rfl rfl Ev.rM (Go.Proofs.J.ic_get Ev.oM) rfl rfl rfl ?_
   repeat first|refine go ?_|with_reducible intro _
   refine Wk.iaP (j - 1) rfl rfl rfl rfl Ev.rM rfl rfl Ev.wM Ev.wM ?_
   refine Wk.loadOlp (cs:=[_]) rfl rfl Ev.rM (Go.Proofs.J.ic_get Ev.oM) rfl rfl rfl ?_
   repeat first|refine go ?_|with_reducible intro _
   refine Wk.call rfl rfl (Spl.none _) (sLess) Ev.cM rfl rfl ?_
   rintro v' Z' A' hz ⟨rfl,rfl,rfl⟩
   repeat first|refine go ?_|with_reducible intro _
   refine Wk.cond rfl (fun hc=>?_) (fun hc=>?_)
   ·rw [if_pos hc] at hg
    repeat first|refine go ?_|with_reducible intro _
    exact Wk.inv ⟨rfl,(by rw [←hg];try rfl),Ev.kM⟩
   rw [if_neg (by rw [hc];simp)] at hg
   repeat first|refine go ?_|with_reducible intro _
   refine Wk.drawr (ms:=[0,0,0,0,8,0,0,64,224,480,0,0,3072,7168,16355,32739,65535,131071]) (l:=[0,1,2,3,4,5,6,7,8,9,10,11,12,13,14,15,16,17]) Ev.cM Ev.cM Ev.cM rfl ?_
   repeat first|refine go ?_|with_reducible intro _
   refine Wk.iaP (j - 1) rfl rfl rfl rfl Ev.rM rfl rfl Ev.wM Ev.wM ?_
   refine Wk.loadOlp (cs:=[_]) rfl rfl Ev.rM (Go.Proofs.J.ic_get Ev.oM) rfl rfl rfl ?_
   repeat first|refine go ?_|with_reducible intro _
   refine Wk.iaP (j) rfl rfl rfl rfl Ev.rM rfl rfl Ev.wM Ev.wM ?_
   refine Wk.loadOlp (cs:=[_]) rfl rfl Ev.rM (Go.Proofs.J.ic_get Ev.oM) rfl rfl rfl ?_
   repeat first|refine go ?_|with_reducible intro _
   refine Wk.iaP (j) rfl rfl rfl rfl Ev.rM rfl rfl Ev.wM Ev.wM ?_
   refine Wk.storeOlp rfl rfl rfl rfl rfl Ev.rM (Go.Proofs.J.ic_set Ev.oM) Ev.cM rfl ?_
   refine Wk.iaP (j - 1) rfl rfl rfl rfl Ev.rM rfl rfl Ev.wM Ev.wM ?_
   refine Wk.storeOlp rfl rfl rfl rfl rfl Ev.rM (Go.Proofs.J.ic_set Ev.oM) Ev.cM rfl ?_
   repeat first|refine go ?_|with_reducible intro _
   exact Wk.inv ⟨_,by omega,j+1,swp e' j (j - 1),by omega,by omega,rfl,rfl,rfl,by rw [Go.Sort.swp_size];exact he',hg,Ev.kM⟩
  ·have hF:fixUp ltInt b i2 e2=e2:=by unfold fixUp;rw [if_neg (by simp at hc;omega)]
   rw [hF]
   repeat first|refine go ?_|with_reducible intro _
   exact Wk.inv ⟨rfl,rfl,Ev.kM⟩
 rintro L Z' A' - ⟨rfl,rfl,hk⟩
 refine Wk.kp hk ?_
 clear hk
 have hs3:(fixUp ltInt b i2 e2).size=n:=by
  unfold fixUp
  split
  ·rw [shiftUp_size _ (Nat.le_refl _)];exact hs2
  ·exact hs2
 repeat first|refine go ?_|with_reducible intro _
 exact Wk.inv ⟨_,by omega,s+1,i2,_,by omega,by omega,by omega,rfl,rfl,rfl,hs3,by rw [←hR];congr 1;omega,Ev.kM⟩
end Go.Proofs.J
namespace Go.Proofs.J
open Go.Ev Go Go.Sort
theorem fdiv32 (x:Nat):Int.fdiv (x:Int) (2 ^ (min (Int.toNat 32) IntKind.u64.bits))=((x / 4294967296:Nat):Int):=by
 rw [Int.fdiv_eq_ediv_of_nonneg _ (by decide)];rfl
theorem fdiv16 (x:Nat):Int.fdiv (x:Int) (2 ^ (min (Int.toNat 16) IntKind.u64.bits))=((x / 65536:Nat):Int):=by
 rw [Int.fdiv_eq_ediv_of_nonneg _ (by decide)];rfl
theorem fdiv8 (x:Nat):Int.fdiv (x:Int) (2 ^ (min (Int.toNat 8) IntKind.u64.bits))=((x / 256:Nat):Int):=by
 rw [Int.fdiv_eq_ediv_of_nonneg _ (by decide)];rfl
def lenTab:ByteArray:=⟨(([0,1]:List UInt8)++List.replicate 2 2++List.replicate 4 3++List.replicate 8 4++List.replicate 16 5++List.replicate 32 6++List.replicate 64 7++List.replicate 128 8).toArray⟩
theorem lenTab_all:(List.range 256).all (fun y=>(Nat.beq y 0) || (match lenTab[y]? with|some w=>Nat.ble (2 ^ w.toNat) (2*y)&&Nat.ble w.toNat 8|none=>false))=true:=by kernel_rfl
theorem lenTab_ok (y:Nat) (h1:1≤y) (h2:y < 256):∃ w,lenTab[y]?=some w∧2 ^ w.toNat≤2*y∧w.toNat≤8:=by
 have h:=List.all_eq_true.1 lenTab_all y (List.mem_range.2 h2)
 have h0:Nat.beq y 0=false:=by cases y with|zero=>omega|succ y=>rfl
 rw [h0,Bool.false_or] at h
 split at h
 ·rename_i w e
  rw [Bool.and_eq_true] at h
  exact ⟨w,e,Nat.le_of_ble_eq_true h.1,Nat.le_of_ble_eq_true h.2⟩
 ·cases h
theorem len64 {Z:Zone} (x:Nat) (h1:1≤x) (h2:x < 18446744073709551616) :
  Cz M (.func (.func 185) #[] #[]) [.int .u64 x] Z [] (fun v' Z' A'=>(∃ r:Nat,v'=.int .i64 r∧2 ^ r≤2*x∧r≤64)∧Z=Z'∧A'=[]):=by
 refine Cz.fn (f:=Tryz.f185) Ev.cM rfl rfl rfl _ rfl ?_
 repeat first|refine go ?_|with_reducible intro _
 refine Wk.cut (fun L Z' A'=>Z=Z'∧A'=[]∧∃ y s:Nat,Kp L [(0,.int .u64 y),(2,.int .i64 s)]∧1≤y∧y < 4294967296∧2 ^ s*y≤x∧s≤32) ?_ ?_
 ·refine Wk.cond rfl (fun hc=>?_) (fun hc=>?_)
  ·have hx:4294967296≤x:=by have:=of_decide_eq_true hc;omega
   repeat first|refine go ?_|with_reducible intro _
   refine Wk.inv ⟨rfl,rfl,x / 4294967296,32,⟨by rw [fdiv32];rfl,rfl,trivial⟩,by omega,by omega,by omega,by omega⟩
  ·have hx:x < 4294967296:=by have:=of_decide_eq_false hc;omega
   repeat first|refine go ?_|with_reducible intro _
   refine Wk.inv ⟨rfl,rfl,x,0,⟨rfl,rfl,trivial⟩,by omega,by omega,by omega,by omega⟩
 rintro L Z' A' - ⟨rfl,rfl,y,s,hk,k1,k2,k3,k4⟩
 refine Wk.kp hk ?_
 clear hk
 repeat first|refine go ?_|with_reducible intro _
 refine Wk.cut (fun L Z' A'=>Z=Z'∧A'=[]∧∃ y s:Nat,Kp L [(0,.int .u64 y),(2,.int .i64 s)]∧1≤y∧y < 65536∧2 ^ s*y≤x∧s≤48) ?_ ?_
 ·refine Wk.cond rfl (fun hc=>?_) (fun hc=>?_)
  ·have hx:65536≤y:=by have:=of_decide_eq_true hc;omega
   repeat first|refine go ?_|with_reducible intro _
   refine Wk.inv ⟨rfl,rfl,y / 65536,s+16,⟨by rw [fdiv16];rfl,rfl,trivial⟩,by omega,by omega,?_,by omega⟩
   rw [Nat.pow_add,Nat.mul_assoc]
   exact Nat.le_trans (Nat.mul_le_mul_left _ Ev.wM) k3
  ·have hx:y < 65536:=by have:=of_decide_eq_false hc;omega
   repeat first|refine go ?_|with_reducible intro _
   refine Wk.inv ⟨rfl,rfl,y,s,⟨rfl,rfl,trivial⟩,by omega,by omega,k3,by omega⟩
 clear k1 k2 k3 k4 y s
 rintro L Z' A' - ⟨rfl,rfl,y,s,hk,k1,k2,k3,k4⟩
 refine Wk.kp hk ?_
 clear hk
 repeat first|refine go ?_|with_reducible intro _
 refine Wk.cut (fun L Z' A'=>Z=Z'∧A'=[]∧∃ y s:Nat,Kp L [(0,.int .u64 y),(2,.int .i64 s)]∧1≤y∧y < 256∧2 ^ s*y≤x∧s≤56) ?_ ?_
 ·refine Wk.cond rfl (fun hc=>?_) (fun hc=>?_)
  ·have hx:256≤y:=by have:=of_decide_eq_true hc;omega
   repeat first|refine go ?_|with_reducible intro _
   refine Wk.inv ⟨rfl,rfl,y / 256,s+8,⟨by rw [fdiv8];rfl,rfl,trivial⟩,by omega,by omega,?_,by omega⟩
   rw [Nat.pow_add,Nat.mul_assoc]
   exact Nat.le_trans (Nat.mul_le_mul_left _ Ev.wM) k3
  ·have hx:y < 256:=by have:=of_decide_eq_false hc;omega
   repeat first|refine go ?_|with_reducible intro _
   refine Wk.inv ⟨rfl,rfl,y,s,⟨rfl,rfl,trivial⟩,by omega,by omega,k3,by omega⟩
 clear k1 k2 k3 k4 y s
 rintro L Z' A' - ⟨rfl,rfl,y,s,hk,k1,k2,k3,k4⟩
 refine Wk.kp hk ?_
 clear hk
 obtain ⟨w,w1,w2,w3⟩:=lenTab_ok y k1 k2
 repeat first|refine go ?_|with_reducible intro _
 refine Wk.ixStr (j:=y) (s:=lenTab) rfl rfl Ev.cM Ev.wM w1 rfl rfl ?_
 refine Wk.conv rfl rfl rfl (Go.Ev.wrap_small (c:=w.toNat) Ev.wM Ev.wM) rfl rfl rfl ?_
 repeat first|refine go ?_|with_reducible intro _
 refine Wk.ret ⟨_,Rs.tmp rfl Rs.nil,_,Sub.none _,⟨s+w.toNat,by simp [outOf],?_,by omega⟩,rfl,rfl⟩
 rw [Nat.pow_add]
 refine Nat.le_trans (Nat.mul_le_mul_left _ w2) ?_
 rw [Nat.mul_left_comm]
 exact Nat.mul_le_mul_left _ k3
theorem len_ {Z:Zone} (x:Nat) (h1:1≤x) (h2:x < 18446744073709551616) :
  Cz M (.func (.func 139) #[] #[]) [.int .u64 x] Z [] (fun v' Z' A'=>(∃ r:Nat,v'=.int .i64 r∧2 ^ r≤2*x∧r≤64)∧Z=Z'∧A'=[]):=by
 refine Cz.fn (f:=Tryz.f139) Ev.cM rfl rfl rfl _ rfl ?_
 repeat first|refine go ?_|with_reducible intro _
 refine Wk.call rfl rfl (Spl.none _) (len64 x h1 h2) rfl rfl rfl ?_
 rintro v' Z' A' hz ⟨⟨r,rfl,h3,h4⟩,rfl,rfl⟩
 repeat first|refine go ?_|with_reducible intro _
 refine Wk.ret ⟨_,Rs.tmp rfl Rs.nil,_,Sub.none _,⟨r,by simp [outOf],h3,h4⟩,rfl,rfl⟩
theorem u64_small {c:Int} (h0:0≤c) (h1:c < 18446744073709551616):IntKind.u64.wrap c=c:=by
 simp [IntKind.wrap,IntKind.bits,IntKind.signed]
 omega
theorem nextPow {Z:Zone} (n:Nat) (h1:1≤n) (h2:n≤17592186044416) :
  Cz M (.func (.func 221) #[] #[]) [.int .i64 n] Z [] (fun v' Z' A'=>(∃ p:Nat,v'=.int .u64 p∧1≤p∧p≤2*n)∧Z=Z'∧A'=[]):=by
 refine Cz.fn (f:=Tryz.f221) Ev.cM rfl rfl rfl _ rfl ?_
 repeat first|refine go ?_|with_reducible intro _
 refine Wk.conv rfl rfl rfl (u64_small (c:=n) Ev.wM Ev.wM) rfl rfl rfl ?_
 repeat first|refine go ?_|with_reducible intro _
 refine Wk.call rfl rfl (Spl.none _) (len_ n h1 Ev.wM) rfl rfl rfl ?_
 rintro v' Z' A' hz ⟨⟨r,rfl,h3,h4⟩,rfl,rfl⟩
 repeat first|refine go ?_|with_reducible intro _
 have hp:IntKind.u64.wrap (1*2 ^ min (r:Int).toNat IntKind.u64.bits)=((2 ^ r:Nat):Int):=by
  have e1:min (r:Int).toNat IntKind.u64.bits=r:=Nat.min_eq_left h4
  have e2:(1*2 ^ r:Int)=((2 ^ r:Nat):Int):=by simp
  rw [e1,e2]
  generalize 2 ^ r=q at h3 ⊢
  exact u64_small Ev.wM Ev.wM
 rw [hp]
 refine Wk.ret ⟨_,Rs.tmp rfl Rs.nil,_,Sub.none _,⟨2 ^ r,rfl,Nat.two_pow_pos r,h3⟩,rfl,rfl⟩
theorem u64_nat (c:Int):∃ y:Nat,y < 18446744073709551616∧IntKind.u64.wrap c=y:=by
 refine ⟨(IntKind.u64.wrap c).toNat,?_,?_⟩<;>simp [IntKind.wrap,IntKind.bits,IntKind.signed]<;>omega
theorem Wk.u64r {fn:FuncId} {rd:Option Nat} {n:Nat} {Q:PQ} {k:List KI} {L:Lo} {Z:Zone} {A:List SA} {ops:Array Oper} {dr:Bool} {pl:List Ro} {ps:List Pn} (t:Nat) {c:Int} (hv:lk L t=some (.int .u64 (IntKind.u64.wrap c))) (h:∀ y:Nat,y < 18446744073709551616→Wk M fn rd n Q (.r ops dr pl ps::k) ((t,.int .u64 y)::L) Z A):Wk M fn rd n Q (.r ops dr pl ps::k) L Z A:=by
 obtain ⟨y,h1,h2⟩:=u64_nat c
 exact Wk.tellr t _ hv (by rw [h2]) (h y h1)
theorem xnext {Z:Zone} (b:Nat) (x:Nat) (h2:x < 18446744073709551616) :
  Cz M (.func (.func 222) #[] #[]) [.pointer (some ⟨b,0,none⟩)] Z [pt b (.cells [.int .u64 x] true 0)] (fun v' Z' A'=>Z=Z'∧∃ y:Nat,y < 18446744073709551616∧v'=.int .u64 y∧A'=[pt b (.cells [.int .u64 y] true 0)]):=by
 refine Cz.fn (f:=Tryz.f222) Ev.cM rfl rfl rfl _ rfl ?_
 repeat first|refine go ?_|with_reducible intro _
 refine Wk.drawr (ms:=[0,1,3,0,8,24,56,127,255,511]) (l:=[0,1,2,3,4,5,6,7,8,9]) Ev.cM Ev.cM Ev.cM rfl ?_
 repeat first|refine go ?_|with_reducible intro _
 refine Wk.u64r 10 rfl fun y hy=>?_
 refine Wk.store rfl rfl rfl rfl rfl .head rfl Ev.cM rfl ?_
 repeat first|refine go ?_|with_reducible intro _
 refine Wk.drawr (ms:=[0,1,3,0,8,24,56,127,255,511]) (l:=[0,1,2,3,4,5,6,7,8,9]) Ev.cM Ev.cM Ev.cM rfl ?_
 repeat first|refine go ?_|with_reducible intro _
 refine Wk.u64r 19 rfl fun z hz=>?_
 refine Wk.store rfl rfl rfl rfl rfl .head rfl Ev.cM rfl ?_
 repeat first|refine go ?_|with_reducible intro _
 refine Wk.drawr (ms:=[0,1,3,0,8,24,56,127,255,511]) (l:=[0,1,2,3,4,5,6,7,8,9]) Ev.cM Ev.cM Ev.cM rfl ?_
 repeat first|refine go ?_|with_reducible intro _
 refine Wk.u64r 28 rfl fun w hw=>?_
 refine Wk.store rfl rfl rfl rfl rfl .head rfl Ev.cM rfl ?_
 repeat first|refine go ?_|with_reducible intro _
 refine Wk.ret ⟨_,Rs.tmp rfl Rs.nil,_,Sub.refl _,rfl,w,hw,rfl,rfl⟩
end Go.Proofs.J
namespace Go.Proofs.J
open Go.Ev Go Go.Sort
theorem and_nat (y q:Nat) (hq:q < 18446744073709551616):∃ o:Nat,o≤q∧IntKind.u64.wrap ((BitVec.ofInt IntKind.u64.bits (y:Int) &&& BitVec.ofInt IntKind.u64.bits (q:Int)).toNat:Int)=o:=by
 refine ⟨(BitVec.ofInt IntKind.u64.bits (y:Int) &&& BitVec.ofInt IntKind.u64.bits (q:Int)).toNat,?_,?_⟩
 ·rw [BitVec.toNat_and]
  refine Nat.le_trans Nat.and_le_right ?_
  rw [BitVec.ofInt_natCast,BitVec.toNat_ofNat]
  exact Nat.mod_le _ _
 ·have h:=(BitVec.ofInt IntKind.u64.bits (y:Int) &&& BitVec.ofInt IntKind.u64.bits (q:Int)).isLt
  have e:(2:Nat) ^ IntKind.u64.bits=18446744073709551616:=by decide
  rw [e] at h
  exact u64_small Ev.wM Ev.wM
theorem breakPatterns_ {Z:Zone} {v:Value} {b0 n a b:Nat} {d:Array Int} (hn:d.size=n) (hab:a≤b) (hb:b≤n) (hs:n≤1000000) :
  Cz M (.func (.func 189) #[] #[]) [v,.int .i64 a,.int .i64 b] Z [olp b0 1 v n (ic d)] (fun v' Z' A'=>Z=Z'∧∃ e,PermIn a b d e∧A'=[olp b0 1 v n (ic e)]):=by
 refine Cz.fn (f:=Tryz.f189) Ev.cM rfl rfl rfl _ rfl ?_
 repeat first|refine go ?_|with_reducible intro _
 refine Wk.cond rfl (fun hc=>?_) (fun hc=>?_)
 rotate_left
 ·repeat first|refine go ?_|with_reducible intro _
  refine Wk.done ⟨_,Rs.nil,_,Sub.refl _,rfl,d,permIn_refl _ _ _,rfl⟩
 obtain ⟨l,hl⟩:∃ l,b=a+l:=⟨b - a,by omega⟩
 subst hl
 have h8:8≤l:=by simp at hc;omega
 clear hc
 refine Wk.tell 6 (.int .i64 l) rfl (by congr 1;omega) ?_
 repeat first|refine go ?_|with_reducible intro _
 refine Wk.conv rfl rfl rfl (u64_small (c:=l) Ev.wM Ev.wM) rfl rfl rfl ?_
 repeat first|refine go ?_|with_reducible intro _
 rename_i bx
 refine Wk.call rfl rfl (Spl.none _) (nextPow l Ev.wM Ev.wM) rfl rfl rfl ?_
 rintro v' Z' A' hz ⟨⟨p,rfl,hp1,hp2⟩,rfl,rfl⟩
 repeat first|refine go ?_|with_reducible intro _
 refine Wk.loop (fun mm L Z' A'=>∃ (i y:Nat) (e:Array Int),a≤i∧i≤a+l / 4*2+2∧mm=a+l / 4*2+2 - i∧Z=Z'∧y < 18446744073709551616∧PermIn a (a+l) d e∧A'=[pt bx (.cells [.int .u64 y] true 0),olp b0 1 v n (ic e)]∧Kp L [(0,v),(1,.int .i64 a),(6,.int .i64 l),(7,.pointer (some ⟨bx,0,none⟩)),(8,.int .u64 p),(9,.int .i64 i)]) (a+l / 4*2+2 - (a+l / 4*2 - 1)) ⟨a+l / 4*2 - 1,l,d,by omega,by omega,rfl,rfl,by omega,permIn_refl _ _ _,rfl,Ev.kM⟩ ?_
 rintro mm L Z' A' - ⟨i,y,e,hi1,hi2,rfl,rfl,hy,hpe,rfl,hk⟩
 refine Wk.kp hk ?_
 clear hk
 have he:e.size=n:=by rw [hpe.1];exact hn
 repeat first|refine go ?_|with_reducible intro _
 refine Wk.cond rfl (fun hc=>?_) (fun hc=>?_)
 ·have hle:i < a+l / 4*2+2:=by simp at hc;omega
  clear hc
  repeat first|refine go ?_|with_reducible intro _
  refine Wk.call rfl rfl (.l (.r .nil)) (xnext bx y hy) rfl rfl rfl ?_
  rintro v36 Z' A' hz ⟨rfl,z,hz2,rfl,rfl⟩
  repeat first|refine go ?_|with_reducible intro _
  refine Wk.bin (v:=.int .u64 ((p - 1:Nat):Int)) rfl rfl (by
   show some (Value.int .u64 (IntKind.u64.wrap ((p:Int) - 1)))=_
   rw [u64_small Ev.wM Ev.wM,show (p:Int) - 1=((p - 1:Nat):Int) by omega]) rfl rfl ?_
  repeat first|refine go ?_|with_reducible intro _
  obtain ⟨o,ho,eo⟩:=and_nat z (p - 1) Ev.wM
  refine Wk.tellr 39 (.int .u64 o) rfl (by rw [eo]) ?_
  refine Wk.conv rfl rfl rfl (Go.Ev.wrap_small (c:=o) Ev.wM Ev.wM) rfl rfl rfl ?_
  repeat first|refine go ?_|with_reducible intro _
  refine Wk.cut (fun L Z' A'=>Z=Z'∧A'=[pt bx (.cells [.int .u64 z] true 0),olp b0 1 v n (ic e)]∧∃ q:Nat,q < l∧Kp L [(0,v),(1,.int .i64 a),(6,.int .i64 l),(7,.pointer (some ⟨bx,0,none⟩)),(8,.int .u64 p),(9,.int .i64 i),(10,.int .i64 q)]) ?_ ?_
  ·refine Wk.cond rfl (fun hc=>?_) (fun hc=>?_)
   ·have hx:l≤o:=by have:=of_decide_eq_true hc;omega
    repeat first|refine go ?_|with_reducible intro _
    refine Wk.inv ⟨rfl,rfl,o - l,by omega,Ev.kM⟩
   ·have hx:o < l:=by have:=of_decide_eq_false hc;omega
    repeat first|refine go ?_|with_reducible intro _
    refine Wk.inv ⟨rfl,rfl,o,by omega,Ev.kM⟩
  rintro L Z' A' - ⟨rfl,rfl,q,hq,hk⟩
  refine Wk.kp hk ?_
  clear hk
  repeat first|refine go ?_|with_reducible intro _
  refine Wk.drawr (ms:=[0,0,0,0,0,24,0,0,0,384,960,1984,0,0,12288,28672,65475,131011,262143,524287]) (l:=[0,1,2,3,4,5,6,7,8,9,10,11,12,13,14,15,16,17,18,19]) Ev.cM Ev.cM Ev.cM rfl ?_
  repeat first|refine go ?_|with_reducible intro _
  refine Wk.iaP (a+q) rfl rfl rfl rfl Ev.rM rfl rfl Ev.wM Ev.wM ?_
  refine Wk.loadOlp (cs:=[_]) rfl rfl Ev.rM (Go.Proofs.J.ic_get Ev.oM) rfl rfl rfl ?_
  repeat first|refine go ?_|with_reducible intro _
  refine Wk.iaP (i) rfl rfl rfl rfl Ev.rM rfl rfl Ev.wM Ev.wM ?_
  refine Wk.loadOlp (cs:=[_]) rfl rfl Ev.rM (Go.Proofs.J.ic_get Ev.oM) rfl rfl rfl ?_
  repeat first|refine go ?_|with_reducible intro _
  refine Wk.iaP (i) rfl rfl rfl rfl Ev.rM rfl rfl Ev.wM Ev.wM ?_
  refine Wk.storeOlp rfl rfl rfl rfl rfl Ev.rM (Go.Proofs.J.ic_set Ev.oM) Ev.cM rfl ?_
  refine Wk.iaP (a+q) rfl rfl rfl rfl Ev.rM rfl rfl Ev.wM Ev.wM ?_
  refine Wk.storeOlp rfl rfl rfl rfl rfl Ev.rM (Go.Proofs.J.ic_set Ev.oM) Ev.cM rfl ?_
  refine Wk.alterr (x:=pt bx (.cells [.int .u64 z] true 0)) (C:=[pt bx (.cells [.int .u64 z] true 0)]) Ev.rM (fun s h=>Sat.one h) ?_
  repeat first|refine go ?_|with_reducible intro _
  refine Wk.inv ⟨_,by omega,i+1,z,swp e i (a+q),by omega,by omega,rfl,rfl,hz2,permIn_trans _ _ _ _ _ hpe (swp_permIn e a (a+l) i (a+q) hi1 Ev.wM Ev.wM Ev.wM Ev.wM),rfl,Ev.kM⟩
 ·repeat first|refine go ?_|with_reducible intro _
  refine Wk.done ⟨_,Rs.nil,_,Sub.drop (Sub.refl _),rfl,e,hpe,rfl⟩
end Go.Proofs.J
namespace Go.Proofs.J
open Go.Ev Go Go.Sort
def Pdq (N:Nat):Prop:=∀ {Z:Zone} {v:Value} {b0 n a b lim:Nat} {d:Array Int},b - a≤N→d.size=n→a≤b→b≤n→n≤1000000→lim≤64→Below ltInt a b d →
  Cz M (.func (.func 143) #[] #[]) [v,.int .i64 a,.int .i64 b,.int .i64 lim] Z [olp b0 1 v n (ic d)] (fun v' Z' A'=>Z=Z'∧∃ e,PermIn a b d e∧SortedIn ltInt a b e∧A'=[olp b0 1 v n (ic e)])
theorem pdq_step {N:Nat} (swo:SWO ltInt) (ih:∀ m,m < N→Pdq m):Pdq N:=by
 intro Z v b0 n a b lim d hN hn hab hb hs hl hB
 refine Cz.fn (f:=Tryz.f143) Ev.cM rfl rfl rfl _ rfl ?_
 repeat first|refine go ?_|with_reducible intro _
 refine Wk.loop (fun mm L Z' A'=>∃ (a' b' l':Nat) (wb wp:Bool) (e:Array Int),b' - a'≤b - a∧mm=b' - a'∧a'≤b'∧b'≤n∧l'≤64∧e.size=n∧Below ltInt a' b' e∧(∀ R,PermIn a' b' e R→SortedIn ltInt a' b' R→PermIn a b d R∧SortedIn ltInt a b R)∧Z=Z'∧A'=[olp b0 1 v n (ic e)] ∧
  Kp L [(0,v),(1,.int .i64 a'),(2,.int .i64 b'),(3,.int .i64 l'),(8,.bool wb),(9,.bool wp)]) (b - a)
  ⟨a,b,lim,true,true,d,Nat.le_refl _,rfl,hab,hb,hl,hn,hB,fun R h1 h2=>⟨h1,h2⟩,rfl,rfl,Ev.kM⟩ ?_
 rintro mm L Z' A' - ⟨a',b',l',wb,wp,e,hle,rfl,hab',hb',hl',he,hB',hG,rfl,rfl,hk⟩
 refine Wk.kp hk ?_
 clear hk
 repeat first|refine go ?_|with_reducible intro _
 refine Wk.cond rfl (fun hc=>?_) (fun hc=>?_)
 ·clear hc
  repeat first|refine go ?_|with_reducible intro _
  refine Wk.call rfl rfl (.l .nil) (insertion he hb' hs Ev.wM) rfl rfl rfl ?_
  rintro v' Z' A' hz ⟨rfl,rfl⟩
  repeat first|refine go ?_|with_reducible intro _
  obtain ⟨q1,q2⟩:=insertionSort_holds swo e a' b' hab' Ev.wM
  obtain ⟨g1,g2⟩:=hG _ q1 q2
  refine Wk.ret ⟨_,Rs.nil,_,Sub.refl _,rfl,_,g1,g2,rfl⟩
 have h12:12 < b' - a':=by simp at hc;omega
 clear hc
 repeat first|refine go ?_|with_reducible intro _
 refine Wk.cond rfl (fun hc=>?_) (fun hc=>?_)
 ·clear hc
  repeat first|refine go ?_|with_reducible intro _
  refine Wk.call rfl rfl (.l .nil) (heap he hb' hs Ev.wM) rfl rfl rfl ?_
  rintro v' Z' A' hz ⟨rfl,rfl⟩
  repeat first|refine go ?_|with_reducible intro _
  obtain ⟨q1,q2⟩:=heapSort_holds swo e a' b' hab' Ev.wM
  obtain ⟨g1,g2⟩:=hG _ q1 q2
  refine Wk.ret ⟨_,Rs.nil,_,Sub.refl _,rfl,_,g1,g2,rfl⟩
 have hl0:l'≠0:=by simp at hc;omega
 clear hc
 repeat first|refine go ?_|with_reducible intro _
 refine Wk.cut (fun L Z' A'=>Z=Z'∧∃ (e1:Array Int) (l1:Nat),l1≤64∧PermIn a' b' e e1∧A'=[olp b0 1 v n (ic e1)]∧Kp L [(0,v),(1,.int .i64 a'),(2,.int .i64 b'),(3,.int .i64 l1),(8,.bool wb),(9,.bool wp),(10,.int .i64 ((b' - a':Nat)))]) ?_ ?_
 ·refine Wk.cond rfl (fun hc=>?_) (fun hc=>?_)
  ·repeat first|refine go ?_|with_reducible intro _
   refine Wk.call rfl rfl (.l .nil) (breakPatterns_ he hab' hb' hs) rfl rfl rfl ?_
   rintro v' Z' A' hz ⟨rfl,e1,hp1,rfl⟩
   repeat first|refine go ?_|with_reducible intro _
   refine Wk.inv ⟨rfl,e1,l' - 1,by omega,hp1,rfl,Ev.kM⟩
  ·repeat first|refine go ?_|with_reducible intro _
   refine Wk.inv ⟨rfl,e,l',by omega,permIn_refl _ _ _,rfl,Ev.kM⟩
 rintro L Z' A' - ⟨rfl,e1,l1,hl1,hp1,rfl,hk⟩
 refine Wk.kp hk ?_
 clear hk hl0 hl'
 have he1:e1.size=n:=by rw [hp1.1];exact he
 repeat first|refine go ?_|with_reducible intro _
 refine Wk.call rfl rfl (.l .nil) (pivot_ he1 Ev.wM hb' hs) rfl rfl rfl ?_
 rintro v' Z' A' hz ⟨p,h,rfl,hpa,hpb,rfl,rfl⟩
 repeat first|refine go ?_|with_reducible intro _
 refine Wk.cut (fun L Z' A'=>Z=Z'∧∃ (e2:Array Int) (p2:Nat) (h2:Int),a'≤p2∧p2 < b'∧PermIn a' b' e e2∧A'=[olp b0 1 v n (ic e2)]∧Kp L [(0,v),(1,.int .i64 a'),(2,.int .i64 b'),(3,.int .i64 l1),(8,.bool wb),(9,.bool wp),(10,.int .i64 ((b' - a':Nat))),(11,.int .i64 p2),(12,.int .i64 h2)]) ?_ ?_
 ·refine Wk.cond rfl (fun hc=>?_) (fun hc=>?_)
  ·repeat first|refine go ?_|with_reducible intro _
   refine Wk.call rfl rfl (.l .nil) (reverse_ he1 hb' hs Ev.wM) rfl rfl rfl ?_
   rintro v' Z' A' hz ⟨rfl,rfl⟩
   repeat first|refine go ?_|with_reducible intro _
   refine Wk.inv ⟨rfl,_,b' - 1 - (p - a'),1,by omega,by omega,permIn_trans _ _ _ _ _ hp1 (reverseRange_holds e1 a' b' hab' Ev.wM),rfl,Ev.kM⟩
  ·repeat first|refine go ?_|with_reducible intro _
   refine Wk.inv ⟨rfl,e1,p,h,hpa,hpb,hp1,rfl,Ev.kM⟩
 clear hp1 he1 hpa hpb e1 p h
 rintro L Z' A' - ⟨rfl,e2,p,h,hpa,hpb,hp2,rfl,hk⟩
 refine Wk.kp hk ?_
 clear hk
 have he2:e2.size=n:=by rw [hp2.1];exact he
 repeat first|refine go ?_|with_reducible intro _
 refine Wk.cutr (fun L Z' A'=>Z=Z'∧A'=[olp b0 1 v n (ic e2)]∧∃ t:Bool,Kp L [(0,v),(1,.int .i64 a'),(2,.int .i64 b'),(3,.int .i64 l1),(8,.bool wb),(9,.bool wp),(10,.int .i64 ((b' - a':Nat))),(11,.int .i64 p),(68,.bool t)]) ?_ ?_
 ·cases wb with
  | false =>
   repeat first|refine go ?_|with_reducible intro _
   exact Wk.inv ⟨rfl,rfl,_,Ev.kM⟩
  | true =>
   cases wp with
   | false =>
    repeat first|refine go ?_|with_reducible intro _
    exact Wk.inv ⟨rfl,rfl,_,Ev.kM⟩
   | true =>
    repeat first|refine go ?_|with_reducible intro _
    exact Wk.inv ⟨rfl,rfl,_,Ev.kM⟩
 rintro L Z' A' - ⟨rfl,rfl,t,hk⟩
 refine Wk.kp hk ?_
 clear hk
 repeat first|refine go ?_|with_reducible intro _
 refine Wk.cut (fun L Z' A'=>Z=Z'∧∃ (e3:Array Int),PermIn a' b' e e3∧A'=[olp b0 1 v n (ic e3)]∧Kp L [(0,v),(1,.int .i64 a'),(2,.int .i64 b'),(3,.int .i64 l1),(8,.bool wb),(9,.bool wp),(10,.int .i64 ((b' - a':Nat))),(11,.int .i64 p)]) ?_ ?_
 ·refine Wk.cond rfl (fun hc=>?_) (fun hc=>?_)
  ·repeat first|refine go ?_|with_reducible intro _
   refine Wk.call rfl rfl (.l .nil) (partialIns_ he2 Ev.wM hb' hs) rfl rfl rfl ?_
   rintro v' Z' A' hz ⟨rfl,rfl,rfl⟩
   obtain ⟨q1,q2⟩:=partialInsertionSort_holds swo e2 a' b' Ev.wM Ev.wM (hB'.perm Ev.wM hp2)
   repeat first|refine go ?_|with_reducible intro _
   refine Wk.cond rfl (fun hc=>?_) (fun hc=>?_)
   ·repeat first|refine go ?_|with_reducible intro _
    obtain ⟨g1,g2⟩:=hG _ (permIn_trans _ _ _ _ _ hp2 q1) (q2 hc)
    refine Wk.ret ⟨_,Rs.nil,_,Sub.refl _,rfl,_,g1,g2,rfl⟩
   ·repeat first|refine go ?_|with_reducible intro _
    refine Wk.inv ⟨rfl,_,permIn_trans _ _ _ _ _ hp2 q1,rfl,Ev.kM⟩
  ·repeat first|refine go ?_|with_reducible intro _
   refine Wk.inv ⟨rfl,e2,hp2,rfl,Ev.kM⟩
 clear hp2 he2 e2
 rintro L Z' A' - ⟨rfl,e3,hp3,rfl,hk⟩
 refine Wk.kp hk ?_
 clear hk
 have he3:e3.size=n:=by rw [hp3.1];exact he
 have hB3:Below ltInt a' b' e3:=hB'.perm Ev.wM hp3
 repeat first|refine go ?_|with_reducible intro _
 refine Wk.drawr (ms:=[0,1,3,7,7,23,63,127,7,7,775,1799,4095,8191,16383]) (l:=[0,1,2,3,4,5,6,7,8,9,10,11,12,13,14]) Ev.cM Ev.cM Ev.cM rfl ?_
 repeat first|refine go ?_|with_reducible intro _
 refine Wk.cutr (fun L Z' A'=>Z=Z'∧A'=[olp b0 1 v n (ic e3)]∧∃ t:Bool,(t=true→0 < a'∧ltInt e3[a' - 1]! e3[p]! = false)∧Kp L [(0,v),(1,.int .i64 a'),(2,.int .i64 b'),(3,.int .i64 l1),(8,.bool wb),(9,.bool wp),(10,.int .i64 ((b' - a':Nat))),(11,.int .i64 p),(87,.bool t)]) ?_ ?_
 ·refine Wk.caser 75 rfl (fun hc=>?_) (fun hc=>?_)
  ·have h0:0 < a':=by simp at hc;omega
   clear hc
   repeat first|refine go ?_|with_reducible intro _
   refine Wk.iaP (a' - 1) rfl rfl rfl rfl Ev.rM rfl rfl Ev.wM Ev.wM ?_
   refine Wk.loadOlp (cs:=[_]) rfl rfl Ev.rM (Go.Proofs.J.ic_get Ev.oM) rfl rfl rfl ?_
   repeat first|refine go ?_|with_reducible intro _
   refine Wk.iaP (p) rfl rfl rfl rfl Ev.rM rfl rfl Ev.wM Ev.wM ?_
   refine Wk.loadOlp (cs:=[_]) rfl rfl Ev.rM (Go.Proofs.J.ic_get Ev.oM) rfl rfl rfl ?_
   repeat first|refine go ?_|with_reducible intro _
   refine Wk.call rfl rfl (Spl.none _) (sLess) Ev.cM rfl rfl ?_
   rintro v' Z' A' hz ⟨rfl,rfl,rfl⟩
   repeat first|refine go ?_|with_reducible intro _
   exact Wk.inv ⟨rfl,rfl,!ltInt e3[a' - 1]! e3[p]!,(fun h=>⟨h0,by simpa using h⟩),Ev.kM⟩
  ·repeat first|refine go ?_|with_reducible intro _
   exact Wk.inv ⟨rfl,rfl,false,(fun h=>by cases h),Ev.kM⟩
 rintro L Z' A' - ⟨rfl,rfl,t,ht,hk⟩
 refine Wk.kp hk ?_
 clear hk
 repeat first|refine go ?_|with_reducible intro _
 refine Wk.cond rfl (fun hc=>?_) (fun hc=>?_)
 ·obtain ⟨h0,hlt⟩:=ht hc
  obtain ⟨mid,d4,hx⟩:∃ mid d4,partitionEqual ltInt e3 a' b' p=(mid,d4):=⟨_,_,rfl⟩
  obtain ⟨r1,r2,r3,r4,r5⟩:=round_eq swo (partitionEqual_holds ltInt) h0 hpa hpb Ev.wM hB3 hlt hx
  repeat first|refine go ?_|with_reducible intro _
  refine Wk.call rfl rfl (.l .nil) (partitionEq_ he3 hpa hpb hb' hs) rfl rfl rfl ?_
  rw [hx]
  rintro v' Z' A' hz ⟨rfl,rfl,rfl⟩
  repeat first|refine go ?_|with_reducible intro _
  refine Wk.inv ⟨_,by omega,mid,b',l1,wb,wp,d4,by omega,rfl,r2,hb',hl1,by rw [r3];exact he3,r4,fun R h1 h2=>?_,rfl,rfl,Ev.kM⟩
  obtain ⟨q1,q2⟩:=r5 R h1 h2
  exact hG R (permIn_trans _ _ _ _ _ hp3 q1) q2
 obtain ⟨mid,ap,d4,hx⟩:∃ mid ap d4,partition ltInt e3 a' b' p=(mid,ap,d4):=⟨_,_,_,rfl⟩
 obtain ⟨r1,r2,r3,r4,r5,r6,r7⟩:=round_part swo (partition_holds ltInt) hpa hpb Ev.wM hB3 hx
 clear hc ht
 repeat first|refine go ?_|with_reducible intro _
 refine Wk.call rfl rfl (.l .nil) (partition_ he3 hpa hpb hb' hs) rfl rfl rfl ?_
 rw [hx]
 rintro v' Z' A' hz ⟨rfl,rfl,rfl⟩
 repeat first|refine go ?_|with_reducible intro _
 refine Wk.cond rfl (fun hc=>?_) (fun hc=>?_)
 ·clear hc
  repeat first|refine go ?_|with_reducible intro _
  refine Wk.call rfl rfl (.l .nil) (ih (mid - a') Ev.wM (n:=n) (a:=a') (b:=mid) (lim:=l1) (d:=d4) (Nat.le_refl _) (by rw [r3];exact he3) r1 Ev.wM hs hl1 r4) rfl rfl rfl ?_
  rintro v' Z' A' hz ⟨rfl,f,f1,f2,rfl⟩
  obtain ⟨k1,k2⟩:=r6 f f1 f2
  repeat first|refine go ?_|with_reducible intro _
  refine Wk.inv ⟨_,by omega,mid+1,b',l1,_,ap,f,by omega,rfl,by omega,hb',hl1,by rw [f1.1,r3];exact he3,k1,fun R h1 h2=>?_,rfl,rfl,Ev.kM⟩
  obtain ⟨q1,q2⟩:=k2 R h1 h2
  exact hG R (permIn_trans _ _ _ _ _ hp3 q1) q2
 ·clear hc
  repeat first|refine go ?_|with_reducible intro _
  refine Wk.call rfl rfl (.l .nil) (ih (b' - (mid+1)) Ev.wM (n:=n) (a:=mid+1) (b:=b') (lim:=l1) (d:=d4) (Nat.le_refl _) (by rw [r3];exact he3) Ev.wM hb' hs hl1 r5) rfl rfl rfl ?_
  rintro v' Z' A' hz ⟨rfl,f,f1,f2,rfl⟩
  obtain ⟨k1,k2⟩:=r7 f f1 f2
  repeat first|refine go ?_|with_reducible intro _
  refine Wk.inv ⟨_,by omega,a',mid,l1,_,ap,f,by omega,rfl,by omega,by omega,hl1,by rw [f1.1,r3];exact he3,k1,fun R h1 h2=>?_,rfl,rfl,Ev.kM⟩
  obtain ⟨q1,q2⟩:=k2 R h1 h2
  exact hG R (permIn_trans _ _ _ _ _ hp3 q1) q2
theorem pdq_:∀ N:Nat,Pdq N:=by
 intro N
 induction N using Nat.strongRecOn with
 | ind N ih=>exact pdq_step swo_ltInt ih
end Go.Proofs.J
namespace Go.Proofs.J
open Go.Ev Go Go.Sort
theorem sort_ {Z:Zone} {b0 n:Nat} {ad:Option Addr} {cp:Nat} {d:Array Int} (hn:d.size=n) (h1:1≤n) (hs:n≤1000000) :
  Cz M (.func (.func 87) #[] #[]) [.slice ad n cp] Z [olp b0 1 (.slice ad n cp) n (ic d)] (fun v' Z' A'=>Z=Z'∧∃ e,PermIn 0 n d e∧SortedIn ltInt 0 n e∧A'=[olp b0 1 (.slice ad n cp) n (ic e)]):=by
 refine Cz.fn (f:=Tryz.f87) Ev.cM rfl rfl rfl _ rfl ?_
 repeat first|refine go ?_|with_reducible intro _
 refine Wk.conv rfl rfl rfl (u64_small (c:=n) Ev.wM Ev.wM) rfl rfl rfl ?_
 repeat first|refine go ?_|with_reducible intro _
 refine Wk.call rfl rfl (Spl.none _) (len_ n h1 Ev.wM) rfl rfl rfl ?_
 rintro v' Z' A' hz ⟨⟨r,rfl,h2,h3⟩,rfl,rfl⟩
 repeat first|refine go ?_|with_reducible intro _
 refine Wk.call rfl rfl (.l .nil) (pdq_ n (n:=n) (a:=0) (b:=n) (lim:=r) (d:=d) Ev.wM hn Ev.wM (Nat.le_refl _) hs h3 (.inl rfl)) rfl rfl rfl ?_
 rintro v' Z' A' hz ⟨rfl,e,g1,g2,rfl⟩
 repeat first|refine go ?_|with_reducible intro _
 refine Wk.done ⟨_,Rs.nil,_,Sub.refl _,rfl,e,g1,g2,rfl⟩
theorem len64_0 {Z:Zone}:Cz M (.func (.func 185) #[] #[]) [.int .u64 0] Z [] (fun v' Z' A'=>v'=.int .i64 0∧Z=Z'∧A'=[]):=by
 refine Cz.fn (f:=Tryz.f185) Ev.cM rfl rfl rfl _ rfl ?_
 repeat first|refine go ?_|with_reducible intro _
 refine Wk.ixStr (j:=0) (s:=lenTab) (w:=0) rfl rfl Ev.cM (by decide) Ev.cM rfl rfl ?_
 refine Wk.conv rfl rfl rfl (Go.Ev.wrap_small (c:=0) Ev.wM Ev.wM) rfl rfl rfl ?_
 repeat first|refine go ?_|with_reducible intro _
 refine Wk.ret ⟨_,Rs.tmp rfl Rs.nil,_,Sub.none _,by simp [outOf],rfl,rfl⟩
theorem len0 {Z:Zone}:Cz M (.func (.func 139) #[] #[]) [.int .u64 0] Z [] (fun v' Z' A'=>v'=.int .i64 0∧Z=Z'∧A'=[]):=by
 refine Cz.fn (f:=Tryz.f139) Ev.cM rfl rfl rfl _ rfl ?_
 repeat first|refine go ?_|with_reducible intro _
 refine Wk.call rfl rfl (Spl.none _) (len64_0) rfl rfl rfl ?_
 rintro v' Z' A' hz ⟨rfl,rfl,rfl⟩
 repeat first|refine go ?_|with_reducible intro _
 refine Wk.ret ⟨_,Rs.tmp rfl Rs.nil,_,Sub.none _,by simp [outOf],rfl,rfl⟩
theorem sort0 {Z:Zone} {b0:Nat} {ad:Option Addr} {cp:Nat} {d:Array Int} (hn:d.size=0) :
  Cz M (.func (.func 87) #[] #[]) [.slice ad 0 cp] Z [olp b0 1 (.slice ad 0 cp) 0 (ic d)] (fun v' Z' A'=>Z=Z'∧∃ e,PermIn 0 0 d e∧SortedIn ltInt 0 0 e∧A'=[olp b0 1 (.slice ad 0 cp) 0 (ic e)]):=by
 refine Cz.fn (f:=Tryz.f87) Ev.cM rfl rfl rfl _ rfl ?_
 repeat first|refine go ?_|with_reducible intro _
 refine Wk.conv rfl rfl rfl (u64_small (c:=0) Ev.wM Ev.wM) rfl rfl rfl ?_
 repeat first|refine go ?_|with_reducible intro _
 refine Wk.call rfl rfl (Spl.none _) len0 rfl rfl rfl ?_
 rintro v' Z' A' hz ⟨rfl,rfl,rfl⟩
 repeat first|refine go ?_|with_reducible intro _
 refine Wk.call rfl rfl (.l .nil) (pdq_ 0 (n:=0) (a:=0) (b:=0) (lim:=0) (d:=d) Ev.wM hn Ev.wM (Nat.le_refl _) Ev.wM Ev.wM (.inl rfl)) rfl rfl rfl ?_
 rintro v' Z' A' hz ⟨rfl,e,g1,g2,rfl⟩
 repeat first|refine go ?_|with_reducible intro _
 refine Wk.done ⟨_,Rs.nil,_,Sub.refl _,rfl,e,g1,g2,rfl⟩
theorem sortInts {Z:Zone} {b0 n:Nat} {ad:Option Addr} {cp:Nat} {d:Array Int} (hn:d.size=n) (hs:n≤1000000) :
  Cz M (.func (.func 87) #[] #[]) [.slice ad n cp] Z [olp b0 1 (.slice ad n cp) n (ic d)] (fun v' Z' A'=>Z=Z'∧∃ e,PermIn 0 n d e∧SortedIn ltInt 0 n e∧A'=[olp b0 1 (.slice ad n cp) n (ic e)]):=by
 by_cases h:n=0
 ·subst h
  exact sort0 hn
 ·exact sort_ hn Ev.wM hs
end Go.Proofs.J
