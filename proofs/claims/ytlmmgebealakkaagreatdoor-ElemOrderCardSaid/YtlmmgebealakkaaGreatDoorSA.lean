/- SA -/
import Derived.Test.YtlmmgebealakkaaGreatDoorTab
import Derived.Test.YtlmmgebealakkaaGreatDoorPL
import Derived.Test.YtlmmgebealakkaaGreatDoorEvF
import Derived.Sort.Lot0
import Derived.Sort.AssemblyPlain
set_option linter.unusedVariables false
set_option linter.unusedSimpArgs false
set_option maxHeartbeats 4000000
set_option maxRecDepth 10000
namespace Go.Proofs.J
open Go.Ev Go Go.Sort
theorem sNaN {Z:Zone} {x:Int}:Cz M (.func (.func 150) #[] #[]) [.int .i64 x] Z [] (fun v' Z' A'=>v'=.bool false∧Z=Z'∧A'=[]):=by
 refine Cz.fn (f:=Tryz.f150) Ev.cM rfl rfl rfl _ rfl ?_
 repeat first|refine go ?_|with_reducible intro _
 refine Wk.ret ⟨_,Rs.tmp rfl Rs.nil,_,Sub.none _,by simp [outOf],rfl,rfl⟩
theorem sLess {Z:Zone} {x y:Int}:Cz M (.func (.func 195) #[] #[]) [.int .i64 x,.int .i64 y] Z [] (fun v' Z' A'=>v'=.bool (ltInt x y)∧Z=Z'∧A'=[]):=by
 refine Cz.fn (f:=Tryz.f195) Ev.cM rfl rfl rfl _ rfl ?_
 repeat first|refine go ?_|with_reducible intro _
 refine Wk.call rfl rfl (Spl.none _) (sNaN) rfl rfl rfl ?_
 rintro v' Z' A' hz ⟨rfl,rfl,rfl⟩
 repeat first|refine go ?_|with_reducible intro _
 refine Wk.ret ⟨_,Rs.tmp rfl Rs.nil,_,Sub.none _,by simp [outOf,ltInt],rfl,rfl⟩
theorem and_l {p:Prop} [Decidable p] {b:Bool} (h:p):some (Value.bool b)=some (Value.bool (decide p&&b)):=by simp [h]
theorem and_f {p:Prop} [Decidable p] {b:Bool} (h:¬ p):some (Value.bool false)=some (Value.bool (decide p&&b)):=by simp [h]
theorem siftDown_size:∀ (k hi first root:Nat) (d:Array Int),hi - root≤k→(siftDown ltInt hi first root d).size=d.size:=by
 intro k
 induction k with
 | zero =>
  intro hi first root d h
  rw [siftDown,dif_pos Ev.wM]
 | succ k ih =>
  intro hi first root d h
  rw [siftDown]
  split
  ·rfl
  ·split
   ·split
    ·rfl
    ·split
     ·rw [ih _ _ _ _ Ev.wM,swp_size]
     ·rfl
   ·split
    ·rfl
    ·rw [ih _ _ _ _ Ev.wM,swp_size]
theorem sift {Z:Zone} {v:Value} {b0 n lo hi first:Nat} {d:Array Int} (hn:d.size=n) (hb:first+hi≤n) (hs:n≤1000000) (hl:lo≤n) :
  Cz M (.func (.func 234) #[] #[]) [v,.int .i64 lo,.int .i64 hi,.int .i64 first] Z [olp b0 1 v n (ic d)] (fun v' Z' A'=>Z=Z'∧A'=[olp b0 1 v n (ic (siftDown ltInt hi first lo d))]):=by
 refine Cz.fn (f:=Tryz.f234) Ev.cM rfl rfl rfl _ rfl ?_
 repeat first|refine go ?_|with_reducible intro _
 refine Wk.loop (fun mm L Z' A'=>∃ (i:Nat) (e:Array Int),i≤n∧mm=n - i∧Z=Z'∧A'=[olp b0 1 v n (ic e)]∧e.size=n∧siftDown ltInt hi first i e=siftDown ltInt hi first lo d∧Kp L [(0,v),(2,.int .i64 hi),(3,.int .i64 first),(8,.int .i64 i)]) (n - lo) ⟨lo,d,hl,rfl,rfl,rfl,hn,rfl,Ev.kM⟩ ?_
 rintro mm L Z' A' - ⟨i,e,hi2,rfl,rfl,rfl,he,hf,hk⟩
 refine Wk.kp hk ?_
 clear hk
 repeat first|refine go ?_|with_reducible intro _
 refine Wk.cond rfl (fun hc=>?_) (fun hc=>?_)
 ·have e1:siftDown ltInt hi first i e=e:=by rw [siftDown,dif_pos (by simp at hc;omega)]
  repeat first|refine go ?_|with_reducible intro _
  refine Wk.done ⟨_,Rs.nil,_,Sub.refl _,rfl,by rw [←hf,e1]⟩
 have h1:2*i+1 < hi:=by simp at hc;omega
 clear hc
 rw [siftDown,dif_neg Ev.wM] at hf
 repeat first|refine go ?_|with_reducible intro _
 refine Wk.drawr (ms:=[0,1,0,7,15,31,31,31,223,511,1023,31,31,31,12319,28703,63519,129055,262143,524287]) (l:=[0,1,2,3,4,5,6,7,8,9,10,11,12,13,14,15,16,17,18,19]) Ev.cM Ev.cM Ev.cM rfl ?_
 repeat first|refine go ?_|with_reducible intro _
 refine Wk.cutr (fun L Z' A'=>Z=Z'∧A'=[olp b0 1 v n (ic e)]∧Kp L [(0,v),(2,.int .i64 hi),(3,.int .i64 first),(8,.int .i64 i),(9,.int .i64 (2*i+1:Nat)),(36,.bool (decide (2*i+1+1 < hi)&&ltInt e[first+(2*i+1)]! e[first+(2*i+1)+1]!))]) ?_ ?_
 ·refine Wk.caser 21 rfl (fun hc=>?_) (fun hc=>?_)
  ·have h2:2*i+1+1 < hi:=by simp at hc;omega
   clear hc
   repeat first|refine go ?_|with_reducible intro _
   refine Wk.iaP (first+(2*i+1)) rfl rfl rfl rfl Ev.rM rfl rfl Ev.wM Ev.wM ?_
   refine Wk.loadOlp (cs:=[_]) rfl rfl Ev.rM (Go.Proofs.J.ic_get Ev.oM) rfl rfl rfl ?_
   repeat first|refine go ?_|with_reducible intro _
   refine Wk.iaP (first+(2*i+1)+1) rfl rfl rfl rfl Ev.rM rfl rfl Ev.wM Ev.wM ?_
   refine Wk.loadOlp (cs:=[_]) rfl rfl Ev.rM (Go.Proofs.J.ic_get Ev.oM) rfl rfl rfl ?_
   repeat first|refine go ?_|with_reducible intro _
   refine Wk.call rfl rfl (Spl.none _) (sLess) Ev.cM rfl rfl ?_
   rintro v' Z' A' hz ⟨rfl,rfl,rfl⟩
   repeat first|refine go ?_|with_reducible intro _
   refine Wk.inv ⟨rfl,rfl,rfl,rfl,rfl,rfl,by congr 1,and_l h2,trivial⟩
  ·have h2:¬ 2*i+1+1 < hi:=by simp at hc;omega
   clear hc
   repeat first|refine go ?_|with_reducible intro _
   refine Wk.inv ⟨rfl,rfl,rfl,rfl,rfl,rfl,by congr 1,and_f h2,trivial⟩
 rintro L Z' A' - ⟨rfl,rfl,hk⟩
 refine Wk.kp hk ?_
 clear hk
 refine Wk.cut (fun L Z' A'=>∃ c:Nat,(c=2*i+1∨c=2*i+2)∧c < hi∧Z=Z'∧A'=[olp b0 1 v n (ic e)]∧(if !ltInt e[first+i]! e[first+c]! then e else siftDown ltInt hi first c (swp e (first+i) (first+c)))=siftDown ltInt hi first lo d∧Kp L [(0,v),(2,.int .i64 hi),(3,.int .i64 first),(8,.int .i64 i),(9,.int .i64 c)]) ?_ ?_
 ·refine Wk.cond rfl (fun hc=>?_) (fun hc=>?_)
  ·rw [if_pos hc] at hf
   have h2:2*i+1+1 < hi:=by simp only [Bool.and_eq_true,decide_eq_true_eq] at hc;exact hc.1
   repeat first|refine go ?_|with_reducible intro _
   refine Wk.inv ⟨2*i+2,.inr rfl,by omega,rfl,rfl,?_,rfl,rfl,rfl,rfl,by congr 1,trivial⟩
   rw [dif_pos Ev.wM] at hf
   exact hf
  ·rw [if_neg (by rw [hc];simp)] at hf
   repeat first|refine go ?_|with_reducible intro _
   exact Wk.inv ⟨2*i+1,.inl rfl,by omega,rfl,rfl,hf,Ev.kM⟩
 rintro L Z' A' - ⟨c,hc0,hc1,rfl,rfl,hf2,hk⟩
 clear hf
 refine Wk.kp hk ?_
 clear hk
 repeat first|refine go ?_|with_reducible intro _
 refine Wk.drawr (ms:=[0,0,0,6,15,31,0,0,0,384,960,1984,4095,8191]) (l:=[0,1,2,3,4,5,6,7,8,9,10,11,12,13]) Ev.cM Ev.cM Ev.cM rfl ?_
 repeat first|refine go ?_|with_reducible intro _
 refine Wk.iaP (first+i) rfl rfl rfl rfl Ev.rM rfl rfl Ev.wM Ev.wM ?_
 refine Wk.loadOlp (cs:=[_]) rfl rfl Ev.rM (Go.Proofs.J.ic_get Ev.oM) rfl rfl rfl ?_
 repeat first|refine go ?_|with_reducible intro _
 refine Wk.iaP (first+c) rfl rfl rfl rfl Ev.rM rfl rfl Ev.wM Ev.wM ?_
 refine Wk.loadOlp (cs:=[_]) rfl rfl Ev.rM (Go.Proofs.J.ic_get Ev.oM) rfl rfl rfl ?_
 repeat first|refine go ?_|with_reducible intro _
 refine Wk.call rfl rfl (Spl.none _) (sLess) Ev.cM rfl rfl ?_
 rintro v' Z' A' hz ⟨rfl,rfl,rfl⟩
 repeat first|refine go ?_|with_reducible intro _
 refine Wk.cond rfl (fun hc=>?_) (fun hc=>?_)
 ·rw [if_pos hc] at hf2
  repeat first|refine go ?_|with_reducible intro _
  refine Wk.ret ⟨_,Rs.nil,_,Sub.refl _,rfl,by rw [←hf2];rfl⟩
 ·rw [if_neg (by rw [hc];simp)] at hf2
  repeat first|refine go ?_|with_reducible intro _
  refine Wk.drawr (ms:=[0,0,0,6,0,0,0,96,0,0,0,1536,3840,7936,0,0,0,98304,245760,507904,1048335,2096911,4194303,8388607]) (l:=[0,1,2,3,4,5,6,7,8,9,10,11,12,13,14,15,16,17,18,19,20,21,22,23]) Ev.cM Ev.cM Ev.cM rfl ?_
  repeat first|refine go ?_|with_reducible intro _
  refine Wk.iaP (first+c) rfl rfl rfl rfl Ev.rM rfl rfl Ev.wM Ev.wM ?_
  refine Wk.loadOlp (cs:=[_]) rfl rfl Ev.rM (Go.Proofs.J.ic_get Ev.oM) rfl rfl rfl ?_
  repeat first|refine go ?_|with_reducible intro _
  refine Wk.iaP (first+i) rfl rfl rfl rfl Ev.rM rfl rfl Ev.wM Ev.wM ?_
  refine Wk.loadOlp (cs:=[_]) rfl rfl Ev.rM (Go.Proofs.J.ic_get Ev.oM) rfl rfl rfl ?_
  repeat first|refine go ?_|with_reducible intro _
  refine Wk.iaP (first+i) rfl rfl rfl rfl Ev.rM rfl rfl Ev.wM Ev.wM ?_
  refine Wk.storeOlp rfl rfl rfl rfl rfl Ev.rM (Go.Proofs.J.ic_set Ev.oM) Ev.cM rfl ?_
  refine Wk.iaP (first+c) rfl rfl rfl rfl Ev.rM rfl rfl Ev.wM Ev.wM ?_
  refine Wk.storeOlp rfl rfl rfl rfl rfl Ev.rM (Go.Proofs.J.ic_set Ev.oM) Ev.cM rfl ?_
  repeat first|refine go ?_|with_reducible intro _
  exact Wk.inv ⟨_,by omega,c,swp e (first+i) (first+c),by omega,rfl,rfl,rfl,by rw [swp_size];exact he,hf2,Ev.kM⟩
theorem heap {Z:Zone} {v:Value} {b0 n a b:Nat} {d:Array Int} (hn:d.size=n) (hb:b≤n) (hs:n≤1000000) (hab:a < b) :
  Cz M (.func (.func 219) #[] #[]) [v,.int .i64 a,.int .i64 b] Z [olp b0 1 v n (ic d)] (fun v' Z' A'=>Z=Z'∧A'=[olp b0 1 v n (ic (heapSort ltInt d a b))]):=by
 refine Cz.fn (f:=Tryz.f219) Ev.cM rfl rfl rfl _ rfl ?_
 repeat first|refine go ?_|with_reducible intro _
 have hq:((b:Int) - a - 1) / 2=((b - a - 1) / 2:Nat):=by omega
 refine Wk.loop (fun mm L Z' A'=>∃ (k:Nat) (e:Array Int),k≤(b - a - 1) / 2+1∧mm=k∧Z=Z'∧A'=[olp b0 1 v n (ic e)]∧e.size=n∧heapBuild ltInt (b - a) a k e=heapBuild ltInt (b - a) a ((b - a - 1) / 2+1) d∧Kp L [(0,v),(6,.int .i64 a),(7,.int .i64 0),(8,.int .i64 (b - a:Nat)),(9,.int .i64 ((k:Int) - 1))]) ((b - a - 1) / 2+1) ⟨(b - a - 1) / 2+1,d,Nat.le_refl _,rfl,rfl,rfl,hn,rfl,rfl,rfl,rfl,kpI rfl Ev.wM,kpI rfl Ev.wM,trivial⟩ ?_
 rintro mm L Z' A' - ⟨k,e,hk0,hmm,rfl,rfl,he,hf,hk⟩
 refine Wk.kp hk ?_
 clear hk
 repeat first|refine go ?_|with_reducible intro _
 refine Wk.cond rfl (fun hc=>?_) (fun hc=>?_)
 ·obtain ⟨q,rfl⟩:∃ q,k=q+1:=⟨k - 1,by simp at hc;omega⟩
  clear hc
  refine Wk.tell 9 (.int .i64 (q:Nat)) rfl (by congr 1;omega) ?_
  repeat first|refine go ?_|with_reducible intro _
  refine Wk.call rfl rfl (Spl.all _) (sift he Ev.wM hs Ev.wM) rfl rfl rfl ?_
  rintro v' Z' A' hz ⟨rfl,rfl⟩
  repeat first|refine go ?_|with_reducible intro _
  refine Wk.inv ⟨_,by omega,q,_,by omega,rfl,rfl,rfl,by rw [siftDown_size _ _ _ _ _ (Nat.le_refl _)];exact he,by rw [←hf];rfl,Ev.kM⟩
 obtain rfl:k=0:=by simp at hc;omega
 clear hc
 have hf':e=heapBuild ltInt (b - a) a ((b - a - 1) / 2+1) d:=by rw [←hf];rfl
 have hh:heapSort ltInt d a b=heapPop ltInt a (b - a) e:=by rw [hf'];rfl
 repeat first|refine go ?_|with_reducible intro _
 refine Wk.loop (fun mm L Z' A'=>∃ (k:Nat) (e':Array Int),k≤b - a∧mm=k∧Z=Z'∧A'=[olp b0 1 v n (ic e')]∧e'.size=n∧heapPop ltInt a k e'=heapPop ltInt a (b - a) e∧Kp L [(0,v),(6,.int .i64 a),(7,.int .i64 0),(10,.int .i64 ((k:Int) - 1))]) (b - a) ⟨b - a,e,Nat.le_refl _,rfl,rfl,rfl,he,rfl,rfl,rfl,rfl,kpI rfl Ev.wM,trivial⟩ ?_
 rintro mm L Z' A' - ⟨k,e',hk0,hmm,rfl,rfl,he',hf2,hk⟩
 refine Wk.kp hk ?_
 clear hk
 repeat first|refine go ?_|with_reducible intro _
 refine Wk.cond rfl (fun hc=>?_) (fun hc=>?_)
 ·obtain ⟨q,rfl⟩:∃ q,k=q+1:=⟨k - 1,by simp at hc;omega⟩
  clear hc
  refine Wk.tell 10 (.int .i64 (q:Nat)) rfl (by congr 1;omega) ?_
  repeat first|refine go ?_|with_reducible intro _
  refine Wk.drawr (ms:=[0,0,0,0,0,24,0,0,0,384,960,1984,0,0,12288,28672,65475,131011,262143,524287]) (l:=[0,1,2,3,4,5,6,7,8,9,10,11,12,13,14,15,16,17,18,19]) Ev.cM Ev.cM Ev.cM rfl ?_
  repeat first|refine go ?_|with_reducible intro _
  refine Wk.iaP (a+q) rfl rfl rfl rfl Ev.rM rfl rfl Ev.wM Ev.wM ?_
  refine Wk.loadOlp (cs:=[_]) rfl rfl Ev.rM (Go.Proofs.J.ic_get Ev.oM) rfl rfl rfl ?_
  repeat first|refine go ?_|with_reducible intro _
  refine Wk.iaP (a) rfl rfl rfl rfl Ev.rM rfl rfl Ev.wM Ev.wM ?_
  refine Wk.loadOlp (cs:=[_]) rfl rfl Ev.rM (Go.Proofs.J.ic_get Ev.oM) rfl rfl rfl ?_
  repeat first|refine go ?_|with_reducible intro _
  refine Wk.iaP (a) rfl rfl rfl rfl Ev.rM rfl rfl Ev.wM Ev.wM ?_
  refine Wk.storeOlp rfl rfl rfl rfl rfl Ev.rM (Go.Proofs.J.ic_set Ev.oM) Ev.cM rfl ?_
  refine Wk.iaP (a+q) rfl rfl rfl rfl Ev.rM rfl rfl Ev.wM Ev.wM ?_
  refine Wk.storeOlp rfl rfl rfl rfl rfl Ev.rM (Go.Proofs.J.ic_set Ev.oM) Ev.cM rfl ?_
  repeat first|refine go ?_|with_reducible intro _
  refine Wk.call rfl rfl (Spl.all _) (sift (d:=swp e' a (a+q)) (by rw [swp_size];exact he') Ev.wM hs (Nat.zero_le _)) rfl rfl rfl ?_
  rintro v' Z' A' hz ⟨rfl,rfl⟩
  repeat first|refine go ?_|with_reducible intro _
  refine Wk.inv ⟨_,by omega,q,_,by omega,rfl,rfl,rfl,by rw [siftDown_size _ _ _ _ _ (Nat.le_refl _),swp_size];exact he',by rw [←hf2];rfl,Ev.kM⟩
 obtain rfl:k=0:=by simp at hc;omega
 repeat first|refine go ?_|with_reducible intro _
 refine Wk.done ⟨_,Rs.nil,_,Sub.refl _,rfl,by rw [hh,←hf2];rfl⟩
end Go.Proofs.J
namespace Go.Proofs.J
open Go.Ev Go Go.Sort
end Go.Proofs.J
namespace Go.Proofs.J
open Go.Ev Go Go.Sort
end Go.Proofs.J
namespace Go.Proofs.J
open Go.Ev Go Go.Sort
end Go.Proofs.J
namespace Go.Proofs.J
open Go.Ev Go Go.Sort
end Go.Proofs.J
namespace Go.Proofs.J
open Go.Ev Go Go.Sort
end Go.Proofs.J
namespace Go.Proofs.J
open Go.Ev Go Go.Sort
end Go.Proofs.J
namespace Go.Proofs.J
open Go.Ev Go Go.Sort
end Go.Proofs.J
