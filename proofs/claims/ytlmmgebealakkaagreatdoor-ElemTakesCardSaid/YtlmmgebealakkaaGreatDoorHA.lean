/- HA -/
import Derived.Test.YtlmmgebealakkaaGreatDoorOK
import Derived.Test.YtlmmgebealakkaaGreatDoorPL
import Derived.Test.YtlmmgebealakkaaGreatDoorEvF
import Derived.Test.YtlmmgebealakkaaGreatDoorSA
import Derived.Test.YtlmmgebealakkaaGreatDoorEA
import Derived.Test.YtlmmgebealakkaaGreatDoorFA
import Derived.Test.YtlmmgebealakkaaGreatDoorOA
set_option linter.unusedVariables false
set_option maxHeartbeats 4000000
set_option maxRecDepth 100000
set_option linter.unusedSimpArgs false
namespace Go.Proofs.J
open Go.Ev Go
abbrev nums (l:List Int):List Value:=l.map (Value.int .i64)
theorem nums_len (l:List Int):(nums l).length=l.length:=by simp
theorem ok_nums (l:List Int):okCells (nums l)=true:=by
 simp only [okCells,List.all_map,List.all_eq_true]
 intro a ha;rfl
theorem growI {Z:Zone} (k:Nat) (hk:k≤1000000000):Cz M (.func (.func 192) #[] #[]) [.slice none 0 0,.int .i64 k] Z [] (fun v Z' A'=>Z=Z'∧A'=[ol 1 v 0 []]):=by
 refine Cz.fn (f:=Tryz.f192) Ev.cM rfl rfl rfl _ rfl ?_
 refine Ev.gT ?_
 refine Wk.v rfl rfl rfl (Rd.capNil rfl rfl rfl rfl) ?_
 refine Ev.gT ?_
 refine Wk.cond rfl (fun hc=>?_) (fun hc=>?_)
 ·have hk0:0 < k:=by simp at hc;omega
  refine Ev.gT ?_
  refine Wk.v rfl rfl rfl (Rd.capNil rfl rfl rfl rfl) ?_
  refine Wk.v rfl rfl rfl (Rd.sliceNil (l:=0) (h:=0) (m:=0) rfl rfl rfl rfl rfl rfl rfl rfl rfl rfl) ?_
  refine Ev.gT ?_
  refine Wk.e rfl rfl rfl (Ef.append0 k rfl rfl rfl rfl rfl rfl rfl Ev.wM hk0 rfl rfl Ev.wM Ev.wM fun b=>⟨PnAll.nil,?_⟩)
  refine Ev.gT ?_
  refine Wk.v (v:=.slice (some ⟨b,0,none⟩) 0 k) rfl rfl rfl (Rd.slice (b:=b) (off:=0) (es:=1) (l:=0) (h:=0) (m:=k) rfl rfl rfl rfl rfl rfl rfl rfl rfl ?_ Ev.hM (.inr rfl)) ?_
  ·simp [abounds]
  refine Ev.gT ?_
  refine Wk.alter (C:=[ol 1 (.slice (some ⟨b,0,none⟩) 0 k) 0 []]) Ev.rM (fun s h=>?_) ?_
  ·exact Sat.one (.inr (.inr ⟨b,1,k,_,rfl,Nat.zero_le _,by rw [repCells_length];rfl,by simp,.inr rfl,okCells_rep rfl _,h⟩))
  refine Wk.ret ?_
  exact ⟨_,Rs.tmp rfl Rs.nil,_,Sub.refl _,rfl,rfl⟩
 ·refine Ev.gT ?_
  refine Wk.olNil 1 ?_
  refine Wk.ret ?_
  exact ⟨_,Rs.tmp rfl Rs.nil,_,Sub.refl _,rfl,rfl⟩
def Iys (Z:Zone) (v:Value) (xss:List (List Int)):Prop:=∃ us,Sl Z 1 v xss.length us∧All2 (fun u xs=>Sl Z 1 u xs.length (nums xs)) us xss
theorem flatI_take (xss:List (List Int)) (j:Nat) (h:j < xss.length):(xss.take (j+1)).flatten=(xss.take j).flatten++xss[j]:=by
 rw [List.take_succ_eq_append_getElem h,List.flatten_append,List.flatten_cons,List.flatten_nil,List.append_nil]
theorem flatI_le (xss:List (List Int)) (j:Nat):(xss.take j).flatten.length≤xss.flatten.length:=by
 conv=>rhs;rw [←List.take_append_drop j xss]
 rw [List.flatten_append,List.length_append];omega
theorem nums_append (a b:List Int):nums (a++b)=nums a++nums b:=by simp
theorem concatI {Z:Zone} {v:Value} {xss:List (List Int)} (h:Iys Z v xss) (hb:xss.flatten.length≤1000000) (hm:xss.length≤1000000) :
  Cz M (.func (.func 154) #[] #[]) [v] Z [] (fun v' Z' A'=>Z=Z'∧A'=[ol 1 v' xss.flatten.length (nums xss.flatten)]):=by
 obtain ⟨us,h1,h2⟩:=h
 have hul:us.length=xss.length:=h2.length
 refine Cz.fn (f:=Tryz.f154) Ev.cM rfl rfl rfl _ rfl ?_
 refine Ev.gT ?_
 refine Wk.loop (fun mm L Z' A'=>∃ j,j≤xss.length∧mm=xss.length - j∧Z=Z'∧A'=[]∧Kp L [(0,v),(3,.int .i64 (xss.take j).flatten.length),(9,v),(10,.int .i64 xss.length),(11,.int .i64 j)]) xss.length ⟨0,by omega,rfl,rfl,rfl,rfl,rfl,rfl,rfl,rfl,trivial⟩ ?_
 rintro mm L Z' A' hz ⟨j,hj,rfl,rfl,rfl,hk⟩
 refine Wk.kp hk ?_
 clear hk hz
 refine Ev.gT ?_
 refine Wk.cond rfl (fun hc=>?_) (fun hc=>?_)
 ·have hlt:j < xss.length:=by simp at hc;omega
  obtain ⟨u,e1,e2⟩:=h2.getElem hlt
  have hs:=flatI_take xss j hlt
  have hle:=flatI_le xss (j+1)
  rw [hs,List.length_append] at hle
  refine Ev.gT ?_
  refine Wk.iaSl j h1 rfl rfl rfl rfl rfl rfl rfl hlt (getCells_one (by simpa using e1)) fun b off hp=>?_
  refine Wk.loadP0 rfl rfl (by assumption) rfl rfl rfl rfl ?_
  refine Ev.gT ?_
  refine Wk.inv ⟨_,by omega,j+1,hlt,rfl,rfl,rfl,rfl,?_,rfl,rfl,rfl,trivial⟩
  exact eqI (by rw [hs,List.length_append];omega)
 ·have hjm:j=xss.length:=by simp at hc;omega
  subst hjm
  have ht:xss.take xss.length=xss:=List.take_length
  refine Ev.gT ?_
  refine Wk.call rfl rfl (Spl.none _) (growI (xss.take xss.length).flatten.length (by rw [ht];omega)) rfl rfl rfl ?_
  rintro v6 Z' A' hz ⟨rfl,rfl⟩
  refine Ev.gT ?_
  refine Wk.loop (fun mm L Z' A'=>∃ j v6,j≤xss.length∧mm=xss.length - j∧Z=Z'∧A'=[ol 1 v6 (xss.take j).flatten.length (nums (xss.take j).flatten)]∧Kp L [(6,v6),(25,v),(26,.int .i64 xss.length),(27,.int .i64 j)]) xss.length ⟨0,v6,by omega,rfl,rfl,rfl,rfl,rfl,rfl,rfl,trivial⟩ ?_
  rintro mm L Z' A' hz ⟨j,v6,hj,rfl,rfl,rfl,hk⟩
  refine Wk.kp hk ?_
  clear hk hz
  refine Ev.gT ?_
  refine Wk.cond rfl (fun hc=>?_) (fun hc=>?_)
  ·have hlt:j < xss.length:=by simp at hc;omega
   obtain ⟨u,e1,e2⟩:=h2.getElem hlt
   have hs:=flatI_take xss j hlt
   have hle:=flatI_le xss (j+1)
   rw [hs,List.length_append] at hle
   refine Ev.gT ?_
   refine Wk.iaSl j h1 rfl rfl rfl rfl rfl rfl rfl hlt (getCells_one (by simpa using e1)) fun b off hp=>?_
   refine Wk.loadP0 rfl rfl (by assumption) rfl rfl rfl rfl ?_
   refine Ev.gT ?_
   refine Wk.append rfl rfl rfl rfl rfl rfl rfl rfl Ev.rM (Src.sl e2) rfl (ok_nums _) (by rw [nums_len];omega) Ev.wM Ev.wM rfl rfl rfl fun v6=>?_
   refine Ev.gT ?_
   refine Wk.inv ⟨_,by omega,j+1,v6,hlt,rfl,rfl,?_,rfl,rfl,rfl,rfl,trivial⟩
   rw [hs,List.length_append,nums_append]
  ·have hjm:j=xss.length:=by simp at hc;omega
   subst hjm
   refine Ev.gT ?_
   refine Wk.ret ?_
   exact ⟨_,Rs.tmp rfl Rs.nil,_,Sub.refl _,rfl,by rw [ht];rfl⟩
end Go.Proofs.J
namespace Go.Proofs.J
open Go.Ev Go
theorem nums_get {l:List Int} {i off:Nat} (e:off=i) (h:i < l.length):getCells (nums l) off 1=some [.int .i64 l[i]]:=by
 subst e
 unfold getCells
 rw [if_pos (by simp;omega),List.drop_eq_getElem_cons (by simpa using h)]
 simp
theorem nums_set {l:List Int} {i off:Nat} {x:Int} (e:off=i) (h:i < l.length):setCells (nums l) off [.int .i64 x]=some (nums (l.set i x)):=by
 subst e
 unfold setCells
 rw [if_pos (by simp;omega)]
 congr 1
 simp only [nums]
 rw [List.map_set,List.set_eq_take_append_cons_drop,if_pos (by simpa using h)]
 rfl
theorem rep_nums (m:Nat):repCells [.int .i64 0] m=nums (List.replicate m 0):=by
 induction m with
 | zero=>rfl
 | succ m ih=>rw [repCells,ih,List.replicate_succ];rfl
theorem nums_clear {a:List Int} {k m off:Nat} (e:off=k) (h:k+m=a.length):setCells (nums a) off (repCells [.int .i64 0] m)=some (nums (a.take k++List.replicate m 0)):=by
 subst e
 unfold setCells
 rw [rep_nums,if_pos (by simp;omega)]
 congr 1
 have:(nums a).drop (off+(nums (List.replicate m 0)).length)=[]:=List.drop_eq_nil_of_le (by simp;omega)
 rw [this,List.append_nil]
 simp [List.map_take]
theorem cpt_snoc:∀ (l:List Int) (x y:Int),cpt (l++[x]++[y])=if x=y then cpt (l++[x]) else cpt (l++[x])++[y]
 | [],x,y=>by
  simp only [List.nil_append,List.cons_append,cpt]
  split
  ·rename_i h;rw [h]
  ·rfl
 | [z],x,y=>by
  have ih:=cpt_snoc [] x y
  simp only [List.nil_append,List.cons_append] at ih
  simp only [List.nil_append,List.cons_append,cpt] at ih ⊢
  by_cases h:z=x
  ·simp only [h,if_true];exact ih
  ·simp only [h,if_false]
   split
   ·rename_i h;rw [h]
   ·rfl
 | z::w::r,x,y=>by
  have ih:=cpt_snoc (w::r) x y
  simp only [List.cons_append] at ih ⊢
  rw [cpt,cpt,ih]
  by_cases h:z=w
  ·simp only [h,if_true]
  ·simp only [h,if_false]
   split<;>simp
theorem cpt_take {l:List Int} {m:Nat} (h1:1≤m) (h:m < l.length):cpt (l.take (m+1))=if l[m - 1]=l[m] then cpt (l.take m) else cpt (l.take m)++[l[m]]:=by
 obtain ⟨j,rfl⟩:∃ j,m=j+1:=⟨m - 1,by omega⟩
 have:=cpt_snoc (l.take j) l[j] l[j+1]
 rw [←List.take_succ_eq_append_getElem Ev.wM,←List.take_succ_eq_append_getElem h] at this
 exact this
theorem cpt_one (l:List Int):cpt (l.take 1)=l.take 1:=by cases l<;>simp [cpt]
theorem abounds_lo {n cp j:Nat} (h:j≤n) (hc:n≤cp):abounds n cp (some j) none none=some (j,n,cp):=by simp [abounds,h,hc]
theorem abounds_hi {n cp j:Nat} (h:j≤n) (hc:n≤cp):abounds n cp none (some j) none=some (0,j,cp):=by
 have:j≤cp:=by omega
 simp [abounds,this]
theorem compact_ {Z : Zone} {b n cp : Nat} {l : List Int} (hn : l.length = n) (h2 : 2 ≤ n) (hs : n ≤ 1000000) (hcap : n ≤ cp) :
    Cz M (.func (.func 156) #[] #[]) [.slice (some ⟨b, 0, none⟩) n cp] Z [olp b 1 (.slice (some ⟨b, 0, none⟩) n cp) n (nums l)] (fun v' Z' A' => Z = Z' ∧ A' = [ol 1 v' (cpt l).length (nums (cpt l))]) := by
  refine Cz.fn (f := Tryz.f156) (by kernel_rfl) rfl rfl rfl _ rfl ?_
  refine Ev.gT ?_
  refine Wk.cond rfl (fun hc => ?_) (fun hc => ?_)
  · exfalso; simp at hc; omega
  refine Ev.gT ?_
  refine Wk.loop (fun mm L Z' A' => ∃ j : Nat, 1 ≤ j ∧ j ≤ n ∧ mm = n - j ∧ Z = Z' ∧ A' = [olp b 1 (.slice (some ⟨b, 0, none⟩) n cp) n (nums l)] ∧ cpt (l.take j) = l.take j ∧ Kp L [(0, .slice (some ⟨b, 0, none⟩) n cp), (3, .int .i64 j)]) (n - 1) ⟨1, by omega, by omega, rfl, rfl, rfl, cpt_one l, (by repeat (first | exact trivial | refine And.intro rfl ?_ | refine And.intro (kpI rfl (by omega)) ?_))⟩ ?_
  rintro mm L Z' A' - ⟨j, hj1, hj, rfl, rfl, rfl, hcp, hk⟩
  refine Wk.kp hk ?_
  clear hk
  refine Ev.gT ?_
  refine Wk.cond rfl (fun hc => ?_) (fun hc => ?_)
  · have hlt : j < n := by simp at hc; omega
    clear hc
    have hst := cpt_take (l := l) hj1 (by omega)
    refine Ev.gT ?_
    refine Wk.drawr (ms := [0, 0, 3, 7, 0, 0, 32, 112, 240, 511]) (l := [0, 1, 2, 3, 4, 5, 6, 7, 8, 9]) (by kernel_rfl) (by kernel_rfl) (by kernel_rfl) rfl ?_
    refine Ev.gT ?_
    refine Wk.iaV j rfl rfl rfl rfl rfl rfl rfl hlt ?_
    refine Wk.loadOlp (cs := [_]) rfl rfl (by repeat (first | exact Rem.head | apply Rem.tail)) (nums_get (i := j) (by omega) (by omega)) rfl rfl rfl ?_
    refine Ev.gT ?_
    refine Wk.iaV (j - 1) rfl rfl rfl rfl rfl rfl (by omega) (by omega) ?_
    refine Wk.loadOlp (cs := [_]) rfl rfl (by repeat (first | exact Rem.head | apply Rem.tail)) (nums_get (i := j - 1) (by omega) (by omega)) rfl rfl rfl ?_
    refine Ev.gT ?_
    refine Wk.cond rfl (fun hc => ?_) (fun hc => ?_)
    · have heq : l[j - 1] = l[j] := by have : l[j] = l[j - 1] := by simpa using hc
                                       exact this.symm
      clear hc
      rw [if_pos heq, hcp] at hst
      refine Ev.gT ?_
      refine Wk.v (v := .slice (some ⟨b, 0 + j * 1, none⟩) (n - j) (cp - j)) rfl rfl rfl (Rd.sliceOlp (l := j) (h := n) (m := cp) (by repeat (first | exact Rem.head | apply Rem.tail)) rfl rfl rfl rfl rfl rfl rfl rfl rfl (abounds_lo hj hcap)) ?_
      refine Ev.gT ?_
      refine Wk.loop (fun mm L Z' A' => ∃ (k i : Nat) (a : List Int), 1 ≤ k ∧ k ≤ n - j ∧ mm = n - j - k ∧ Z = Z' ∧ A' = [olp b 1 (.slice (some ⟨b, 0, none⟩) n cp) n (nums a)] ∧ a.length = n ∧ i + 1 ≤ j + k ∧ (∀ x, j + k ≤ x + 1 → a[x]? = l[x]?) ∧ a.take i = cpt (l.take (j + k)) ∧ Kp L [(0, .slice (some ⟨b, 0, none⟩) n cp), (3, .int .i64 i), (4, .slice (some ⟨b, 0 + j * 1, none⟩) (n - j) (cp - j)), (5, .int .i64 k)]) (n - j - 1) ⟨1, j, l, by omega, by omega, rfl, rfl, rfl, hn, by omega, fun _ _ => rfl, hst.symm, (by repeat (first | exact trivial | refine And.intro rfl ?_ | refine And.intro (kpI rfl (by omega)) ?_))⟩ ?_
      rintro mm L Z' A' - ⟨k, i, a, hk1, hk2, rfl, rfl, rfl, hal, hi, hax, hat, hk⟩
      refine Wk.kp hk ?_
      clear hk
      refine Ev.gT ?_
      refine Wk.cond rfl (fun hc => ?_) (fun hc => ?_)
      · have hkt : k < n - j := by simp at hc; omega
        clear hc
        have e1 : a[j + k]? = l[j + k]? := hax _ (by omega)
        have e2 : a[j + k - 1]? = l[j + k - 1]? := hax _ (by omega)
        rw [List.getElem?_eq_getElem (by omega), List.getElem?_eq_getElem (by omega)] at e1 e2
        have hst2 := cpt_take (l := l) (m := j + k) (by omega) (by omega)
        rw [← Option.some.inj e1, ← Option.some.inj e2] at hst2
        refine Ev.gT ?_
        refine Wk.drawr (ms := [0, 0, 3, 7, 0, 0, 32, 112, 240, 511]) (l := [0, 1, 2, 3, 4, 5, 6, 7, 8, 9]) (by kernel_rfl) (by kernel_rfl) (by kernel_rfl) rfl ?_
        refine Ev.gT ?_
        refine Wk.iaV k rfl rfl rfl rfl rfl rfl rfl hkt ?_
        refine Wk.loadOlp (cs := [_]) rfl rfl (by repeat (first | exact Rem.head | apply Rem.tail)) (nums_get (i := j + k) (by omega) (by omega)) rfl rfl rfl ?_
        refine Ev.gT ?_
        refine Wk.iaV (k - 1) rfl rfl rfl rfl rfl rfl (by omega) (by omega) ?_
        refine Wk.loadOlp (cs := [_]) rfl rfl (by repeat (first | exact Rem.head | apply Rem.tail)) (nums_get (i := j + k - 1) (by omega) (by omega)) rfl rfl rfl ?_
        refine Ev.gT ?_
        refine Wk.cond rfl (fun hc => ?_) (fun hc => ?_)
        · have hne : ¬ a[j + k - 1] = a[j + k] := fun h => by simp [h] at hc
          clear hc
          rw [if_neg hne] at hst2
          refine Ev.gT ?_
          refine Wk.iaV k rfl rfl rfl rfl rfl rfl rfl hkt ?_
          refine Wk.loadOlp (cs := [_]) rfl rfl (by repeat (first | exact Rem.head | apply Rem.tail)) (nums_get (i := j + k) (by omega) (by omega)) rfl rfl rfl ?_
          refine Ev.gT ?_
          refine Wk.iaV i rfl rfl rfl rfl rfl rfl rfl (by omega) ?_
          refine Wk.storeOlp rfl rfl rfl rfl rfl (by repeat (first | exact Rem.head | apply Rem.tail)) (nums_set (i := i) (by omega) (by omega)) (by kernel_rfl) rfl ?_
          refine Ev.gT ?_
          refine Wk.inv ⟨_, by omega, k + 1, i + 1, _, by omega, by omega, rfl, rfl, rfl, by simpa using hal, by omega, fun x hx => ?_, ?_, (by repeat (first | exact trivial | refine And.intro rfl ?_ | refine And.intro (kpI rfl (by omega)) ?_))⟩
          · rw [List.getElem?_set_ne (by omega)]; exact hax x (by omega)
          · rw [show j + (k + 1) = j + k + 1 by omega, hst2, ← hat, List.take_succ_eq_append_getElem (by simp; omega), List.take_set, List.set_eq_of_length_le (by simp; omega)]
            simp
        · have heq2 : a[j + k - 1] = a[j + k] := by have h : a[j + k] = a[j + k - 1] := by simpa using hc
                                                    exact h.symm
          clear hc
          rw [if_pos heq2] at hst2
          refine Ev.gT ?_
          refine Wk.inv ⟨_, by omega, k + 1, i, a, by omega, by omega, rfl, rfl, rfl, hal, by omega, fun x hx => hax x (by omega), by rw [hat, ← hst2]; rfl, (by repeat (first | exact trivial | refine And.intro rfl ?_ | refine And.intro (kpI rfl (by omega)) ?_))⟩
      · have hkn : k = n - j := by simp at hc; omega
        clear hc
        have hfin : a.take i = cpt l := by rw [hat, List.take_of_length_le (by omega)]
        have hil : (cpt l).length = i := by rw [← hfin, List.length_take]; omega
        refine Ev.gT ?_
        refine Wk.v (v := .slice (some ⟨b, 0 + i * 1, none⟩) (n - i) (cp - i)) rfl rfl rfl (Rd.sliceOlp (l := i) (h := n) (m := cp) (by repeat (first | exact Rem.head | apply Rem.tail)) rfl rfl rfl rfl rfl rfl rfl rfl rfl (abounds_lo (by omega) hcap)) ?_
        refine Ev.gT ?_
        refine Wk.e0 rfl rfl (Ef.clearOlp rfl rfl rfl rfl rfl (by repeat (first | exact Rem.head | apply Rem.tail)) rfl (nums_clear (k := i) (by omega) (by omega)) ⟨PnAll.nil, ?_⟩)
        refine Ev.gT ?_
        refine Wk.v (v := .slice (some ⟨b, 0 + 0 * 1, none⟩) (i - 0) (cp - 0)) rfl rfl rfl (Rd.sliceOlp (l := 0) (h := i) (m := cp) (by repeat (first | exact Rem.head | apply Rem.tail)) rfl rfl rfl rfl rfl rfl rfl rfl rfl (abounds_hi (by omega) hcap)) ?_
        refine Ev.gT ?_
        refine Wk.alter (C := [ol 1 (.slice (some ⟨b, 0, none⟩) i cp) i ((nums (a.take i ++ List.replicate (n - i) 0)).take (i * 1))]) (by repeat (first | exact Rem.head | apply Rem.tail)) (fun s h => Sat.one (olp.short (by omega) h)) ?_
        refine Wk.ret ⟨_, Rs.tmp rfl Rs.nil, _, Sub.refl _, rfl, ?_⟩
        have e3 : (nums (a.take i ++ List.replicate (n - i) 0)).take (i * 1) = nums (cpt l) := by
          rw [Nat.mul_one, ← hfin, nums_append, List.take_append_of_le_length (by simp; omega), List.take_of_length_le (by simp; omega)]
        rw [e3, hil]
        simp [outOf]
    · have hne : ¬ l[j - 1] = l[j] := fun h => by simp [h] at hc
      clear hc
      rw [if_neg hne, hcp] at hst
      refine Ev.gT ?_
      refine Wk.inv ⟨_, by omega, j + 1, by omega, by omega, rfl, rfl, rfl, by rw [hst, List.take_succ_eq_append_getElem (by omega)], (by repeat (first | exact trivial | refine And.intro rfl ?_ | refine And.intro (kpI rfl (by omega)) ?_))⟩
  · have hjn : j = n := by simp at hc; omega
    subst hjn
    rw [List.take_of_length_le (by omega)] at hcp
    refine Ev.gT ?_
    refine Wk.alter (C := [ol 1 (.slice (some ⟨b, 0, none⟩) j cp) j (nums l)]) (by repeat (first | exact Rem.head | apply Rem.tail)) (fun s h => Sat.one (olp.ol h)) ?_
    refine Wk.ret ⟨_, Rs.tmp rfl Rs.nil, _, Sub.refl _, rfl, ?_⟩
    rw [hcp, hn]
    simp [outOf]
end Go.Proofs.J
namespace Go.Proofs.J
open Go.Ev Go Go.Sort
theorem sorted_list {e:Array Int} {n:Nat} (hn:e.size=n) (h:SortedIn ltInt 0 n e):e.toList.Pairwise (·≤·):=by
 rw [List.pairwise_iff_getElem]
 intro i j hi hj hij
 have:=h i j (Nat.zero_le _) hij (by simpa [hn] using hj)
 rw [getElem!_pos e i (by simpa using hi),getElem!_pos e j (by simpa using hj)] at this
 simp [ltInt] at this
 simpa using this
theorem perm_list {d e:Array Int} {n:Nat} (hn:d.size=n) (h:PermIn 0 n d e):e.size=n∧e.toList.Perm d.toList:=by
 obtain ⟨h1,h2,h3⟩:=h
 refine ⟨h1.trans hn,?_⟩
 have e1:e.extract 0 n=e:=by rw [←hn,←h1];exact Array.extract_size
 have e2:d.extract 0 n=d:=by rw [←hn];exact Array.extract_size
 rw [e1,e2] at h3
 exact h3
theorem keys_ {Z:Zone} {va vb:Value} {a b:List Int} (h1:Sl Z 1 va a.length (nums a)) (h2:Sl Z 1 vb b.length (nums b)) (ka:Ks a) (kb:Ks b) (ha:a.length≤100000) (hb:b.length≤100000) :
  Cz M (.func (.func 108) #[] #[]) [va,vb] Z [] (fun v' Z' A'=>A'=[ol 1 v' (mrg a b).length (nums (mrg a b))]):=by
 obtain ⟨qa,ca,rfl⟩:=h1.form
 obtain ⟨qb,cb,rfl⟩:=h2.form
 have pa:0 < a.length:=List.length_pos_iff.2 ka.ne
 have pb:0 < b.length:=List.length_pos_iff.2 kb.ne
 refine Cz.fn (f:=Tryz.f108) Ev.cM rfl rfl rfl _ rfl ?_
 refine Ev.gT ?_
 refine Wk.bs (cs:=[.slice qa a.length ca,.slice qb b.length cb]) rfl rfl rfl rfl rfl rfl rfl fun b9=>?_
 first|refine Wk.freezer Rem.head fun Z1 e1 h9=>?_|refine Wk.freeze Rem.head fun Z1 e1 h9=>?_
 have hI:Iys Z1 (.slice (some ⟨b9,0,none⟩) 2 2) [a,b]:=⟨[.slice qa a.length ca,.slice qb b.length cb],.inr ⟨b9,0,2,_,_,_,rfl,Nat.le_refl _,h9,rfl,.inl rfl⟩,.cons (h1.mono e1) (.cons (h2.mono e1) .nil)⟩
 refine Ev.gT ?_
 refine Wk.call rfl rfl (Spl.none _) (concatI hI (by simp;omega) (by simp)) rfl rfl rfl ?_
 rintro v6 Z2 A' hz ⟨rfl,rfl⟩
 have hfl:[a,b].flatten=a++b:=by simp
 have hln:(a++b).length=a.length+b.length:=by simp
 rw [hfl]
 refine Ev.gT ?_
 refine Wk.olOpenr Rem.head Ev.wM fun b6=>?_
 refine Wk.knowr Rem.head (fun s h=>olp.form h) ?_
 rintro ⟨cp,rfl,hcp⟩
 have hic:nums (a++b)=ic (a++b).toArray:=by simp [ic]
 rw [hic]
 refine Ev.gT ?_
 refine Wk.call rfl rfl (.l .nil) (sortInts (n:=(a++b).length) (d:=(a++b).toArray) (by simp) Ev.wM) rfl rfl rfl ?_
 rintro v' Z' A' hz ⟨rfl,e,g1,g2,rfl⟩
 obtain ⟨k1,k2⟩:=perm_list (by simp) g1
 have hmr:cpt e.toList=mrg a b:=cpt_sorted ka.inc kb.inc (sorted_list k1 g2) fun z=>by rw [k2.mem_iff]
 refine Ev.gT ?_
 refine Wk.call rfl rfl (.l .nil) (compact_ (l:=e.toList) (by simpa using k1) Ev.wM Ev.wM hcp) rfl rfl rfl ?_
 rintro v' Z' A' hz ⟨rfl,rfl⟩
 rw [hmr]
 refine Ev.gT ?_
 refine Wk.ret ⟨_,Rs.tmp rfl Rs.nil,_,Sub.refl _,rfl⟩
end Go.Proofs.J
namespace Go.Proofs.J
open Go.Ev Go Go.Sort
theorem fdiv1 (x:Nat):Int.fdiv (x:Int) (2 ^ (min (Int.toNat 1) IntKind.u64.bits))=((x / 2:Nat):Int):=by
 rw [Int.fdiv_eq_ediv_of_nonneg _ (by decide)];rfl
theorem half_wrap {i j:Nat} (h:i+j≤35184372088832):IntKind.i64.wrap (Int.fdiv ((i:Int)+(j:Int)) (2 ^ (min (Int.toNat 1) IntKind.u64.bits)))=(((i+j) / 2:Nat):Int):=by
 rw [show (i:Int)+(j:Int)=((i+j:Nat):Int) by omega,fdiv1]
 exact Go.Ev.wrap_small Ev.wM Ev.wM
theorem sNaN2 {Z:Zone} {x:Int}:Cz M (.func (.func 196) #[] #[]) [.int .i64 x] Z [] (fun v' Z' A'=>v'=.bool false∧Z=Z'∧A'=[]):=by
 refine Cz.fn (f:=Tryz.f196) Ev.cM rfl rfl rfl _ rfl ?_
 refine Ev.gT ?_
 refine Wk.ret ⟨_,Rs.tmp rfl Rs.nil,_,Sub.none _,by simp [outOf],rfl,rfl⟩
theorem binSearch {Z:Zone} {va:Value} {l:List Int} {x:Int} (h1:Sl Z 1 va l.length (nums l)) (hi:Inc l) (hn:l.length≤17592186044416) :
  Cz M (.func (.func 157) #[] #[]) [va,.int .i64 x] Z [] (fun v' Z' A'=>(∃ (i:Nat) (b:Bool),v'=.tuple ⟨[.int .i64 i,.bool b]⟩∧(b=true→l[i]?=some x)∧(b=false→x∉l))∧Z=Z'∧A'=[]):=by
 obtain ⟨qa,ca,rfl⟩:=h1.form
 refine Cz.fn (f:=Tryz.f157) Ev.cM rfl rfl rfl _ rfl ?_
 refine Ev.gT ?_
 refine Wk.loop (fun mm L Z' A'=>∃ (i j:Nat),i≤j∧j≤l.length∧mm=j - i∧Z=Z'∧A'=[]∧(∀ (y:Nat) (h:y < l.length),y < i→l[y] < x)∧(∀ (y:Nat) (h:y < l.length),j≤y→x≤l[y])∧Kp L [(0,.slice qa l.length ca),(1,.int .i64 x),(6,.int .i64 l.length),(7,.int .i64 i),(8,.int .i64 j)]) l.length ⟨0,l.length,Nat.zero_le _,Nat.le_refl _,rfl,rfl,rfl,fun _ _ h=>by omega,fun _ _ h=>by omega,Ev.kM⟩ ?_
 rintro mm L Z' A' - ⟨i,j,hij,hj,rfl,rfl,rfl,hlo,hhi,hk⟩
 refine Wk.kp hk ?_
 clear hk
 refine Ev.gT ?_
 refine Wk.cond rfl (fun hc=>?_) (fun hc=>?_)
 ·have hlt:i < j:=by simp at hc;omega
  clear hc
  have hm1:(i+j) / 2 < l.length:=by omega
  refine Ev.gT ?_
  refine Wk.conv rfl rfl rfl (u64_small (c:=(i:Int)+j) Ev.wM Ev.wM) rfl rfl rfl ?_
  refine Ev.gT ?_
  refine Wk.conv rfl rfl rfl (half_wrap Ev.wM) rfl rfl rfl ?_
  repeat first|refine go ?_|with_reducible intro _
  refine Wk.call rfl rfl (Spl.none _) (sLess) rfl rfl rfl ?_
  rintro v' Z' A' hz ⟨rfl,rfl,rfl⟩
  refine Ev.gT ?_
  refine Wk.cond rfl (fun hc=>?_) (fun hc=>?_)
  ·have hlx:l[(i+j) / 2] < x:=by simpa [ltInt] using hc
   clear hc
   refine Ev.gT ?_
   refine Wk.inv ⟨_,by omega,(i+j) / 2+1,j,by omega,hj,rfl,rfl,rfl,fun y h hy=>?_,hhi,Ev.kM⟩
   by_cases e:y=(i+j) / 2
   ·subst e;exact hlx
   ·have:=List.pairwise_iff_getElem.1 hi y ((i+j) / 2) h hm1 Ev.wM
    omega
  ·have hlx:x≤l[(i+j) / 2]:=by simpa [ltInt] using hc
   clear hc
   refine Ev.gT ?_
   refine Wk.inv ⟨_,by omega,i,(i+j) / 2,by omega,by omega,rfl,rfl,rfl,hlo,fun y h hy=>?_,Ev.kM⟩
   by_cases e:y=(i+j) / 2
   ·subst e;exact hlx
   ·have:=List.pairwise_iff_getElem.1 hi ((i+j) / 2) y hm1 h Ev.wM
    omega
 ·have hij2:i=j:=by simp at hc;omega
  subst hij2
  clear hc
  have hno:(∀ h:i < l.length,l[i]≠x)→x∉l:=by
   intro q hx
   obtain ⟨y,hy,rfl⟩:=List.getElem_of_mem hx
   rcases Nat.lt_trichotomy y i with h|h|h
   ·have:=hlo y hy h;omega
   ·subst h;exact q hy rfl
   ·have h1:=hhi i Ev.wM (Nat.le_refl _)
    have h2:=List.pairwise_iff_getElem.1 hi i y Ev.wM hy h
    omega
  refine Ev.gT ?_
  refine Wk.caser 35 rfl (fun hc=>?_) (fun hc=>?_)
  ·have hlt:i < l.length:=by simp at hc;omega
   repeat first|refine go ?_|with_reducible intro _
   refine Wk.caser 42 rfl (fun hc2=>?_) (fun hc2=>?_)
   ·refine Ev.gT ?_
    refine Wk.ret ⟨_,Rs.tmp rfl (Rs.tmp rfl Rs.nil),_,Sub.refl _,⟨i,true,by simp [outOf],fun _=>?_,fun h=>(by cases h)⟩,rfl,rfl⟩
    rw [List.getElem?_eq_getElem hlt,(by simpa using hc2:l[i]=x)]
   ·have hne:∀ h:i < l.length,l[i]≠x:=fun h=>by simpa using hc2
    repeat first|refine go ?_|with_reducible intro _
    refine Wk.call rfl rfl (Spl.none _) (sNaN2) rfl rfl rfl ?_
    rintro v' Z' A' hz ⟨rfl,rfl,rfl⟩
    refine Ev.gT ?_
    refine Wk.ret ⟨_,Rs.tmp rfl (Rs.tmp rfl Rs.nil),_,Sub.refl _,⟨i,false,by simp [outOf],fun h=>(by cases h),fun _=>hno hne⟩,rfl,rfl⟩
  ·have hge:¬ i < l.length:=by simp at hc;omega
   refine Ev.gT ?_
   refine Wk.ret ⟨_,Rs.tmp rfl (Rs.tmp rfl Rs.nil),_,Sub.refl _,⟨i,false,by simp [outOf],fun h=>(by cases h),fun _=>hno fun h=>absurd h hge⟩,rfl,rfl⟩
theorem ElR_bot (Z:Zone):ElR Z El.bot [.int .u8 0,.int .i64 0,.slice none 0 0,.slice none 0 0]:=by
 simp only [El.bot,ElR]
 exact ⟨_,_,[],rfl,.inl ⟨rfl,rfl,rfl⟩,.inl ⟨rfl,rfl,rfl⟩,by simp [ElRL]⟩
theorem atK_at:∀ {ks:List Int} {l:List El} {i:Nat} {k:Int},ks.Nodup→ks[i]?=some k→(h:i < l.length)→atK ks l k=l[i]
 | [],_,i,k,_,e,_=>by simp at e
 | x::ks,[],i,k,_,e,h=>by simp at h
 | x::ks,y::l,0,k,_,e,h=>by simp at e;simp [atK,e]
 | x::ks,y::l,i+1,k,nd,e,h=>by
  rw [List.nodup_cons] at nd
  have e1:ks[i]?=some k:=by simpa using e
  have hne:x≠k:=fun h=>nd.1 (h▸List.mem_of_getElem? e1)
  rw [atK,if_neg hne,atK_at nd.2 e1 (by simpa using h)]
  rfl
theorem at_ {Z:Zone} {cs:List Value} {e:El} {k:Int} (h:ElR Z e cs) (hi:Inc e.keys) (hl:e.kids.length=e.keys.length) (hn:e.keys.length≤1000000) :
  Cz M (.func (.func 109) #[] #[]) [.agg ⟨cs⟩,.int .i64 k] Z [] (fun v' Z' A'=>(∃ cs',v'=.agg ⟨cs'⟩∧ElR Z (e.at k) cs')∧Z=Z'∧A'=[]):=by
 obtain ⟨a0,c0,a,c,us,rfl,k1,s1,r1⟩:=h.form
 refine Cz.fn (f:=Tryz.f109) Ev.cM rfl rfl rfl _ rfl ?_
 repeat first|refine go ?_|with_reducible intro _
 refine Wk.call rfl rfl (Spl.none _) (binSearch k1 hi Ev.wM) rfl rfl rfl ?_
 rintro v' Z' A' hz ⟨⟨i,b,rfl,g1,g2⟩,rfl,rfl⟩
 refine Ev.gT ?_
 refine Wk.cond rfl (fun hc=>?_) (fun hc=>?_)
 ·have g1:=g1 hc
  have hik:i < e.keys.length:=by
   rcases Nat.lt_or_ge i e.keys.length with h|h
   ·exact h
   ·rw [List.getElem?_eq_none h] at g1;cases g1
  have hlt:i < e.kids.length:=by omega
  obtain ⟨k',n',x1,m1,y1,x2,m2,y2,gg,rr⟩:=r1.get i hlt
  repeat first|refine go ?_|with_reducible intro _
  refine Wk.ret ⟨_,Rs.cell rfl rfl Ev.hM rfl rfl Rs.nil,_,Sub.none _,⟨_,rfl,?_⟩,rfl,rfl⟩
  have e1:e.at k=e.kids[i]:=atK_at hi.nodup g1 hlt
  rw [e1];exact rr
 ·have g2:=g2 hc
  refine Ev.gT ?_
  refine Wk.ret ⟨_,Rs.cell rfl rfl Ev.hM rfl rfl Rs.nil,_,Sub.none _,⟨_,rfl,?_⟩,rfl,rfl⟩
  have e1:e.at k=El.bot:=atK_none g2
  rw [e1];exact ElR_bot Z
theorem rAt {Z:Zone} {cs:List Value} {e:El} {k:Int} (h:ElR Z e cs) (hi:Inc e.keys) (hl:e.kids.length=e.keys.length) (hn:e.keys.length≤1000000) :
  Cz M (.func (.func 112) #[] #[]) [.agg ⟨cs⟩,.int .i64 k] Z [] (fun v' Z' A'=>(∃ cs',v'=.agg ⟨cs'⟩∧ElR Z (e.at k) cs')∧Z=Z'∧A'=[]):=by
 obtain ⟨a0,c0,a,c,us,rfl,k1,s1,r1⟩:=h.form
 refine Cz.fn (f:=Tryz.f112) Ev.cM rfl rfl rfl _ rfl ?_
 repeat first|refine go ?_|with_reducible intro _
 rename_i b2 b4
 refine Wk.loop (fun mm L Z' A'=>∃ j:Nat,j≤e.keys.length∧mm=e.keys.length - j∧Z=Z'∧A'=[pt b4 _,pt b2 _]∧(∀ (y:Nat) (h:y < e.keys.length),y < j→e.keys[y]≠k)∧Kp L [(1,.int .i64 k),(2,.pointer (some ⟨b2,0,none⟩)),(4,.pointer (some ⟨b4,0,none⟩)),(5,.int .i64 j)]) e.keys.length ⟨0,Nat.zero_le _,rfl,rfl,rfl,fun _ _ h=>by omega,Ev.kM⟩ ?_
 rintro mm L Z' A' - ⟨j,hj,rfl,rfl,rfl,hne,hk⟩
 refine Wk.kp hk ?_
 clear hk
 refine Ev.gT ?_
 refine Wk.caser 11 rfl (fun hc=>?_) (fun hc=>?_)
 ·have hlt:j < e.keys.length:=by simp at hc;omega
  have hlt2:j < e.kids.length:=by omega
  obtain ⟨k',n',x1,m1,y1,x2,m2,y2,gg,rr⟩:=r1.get j hlt2
  refine Ev.gT ?_
  refine Wk.cond rfl (fun hc2=>?_) (fun hc2=>?_)
  ·repeat first|refine go ?_|with_reducible intro _
   refine Wk.cond rfl (fun hc3=>?_) (fun hc3=>?_)
   ·repeat first|refine go ?_|with_reducible intro _
    refine Wk.ret ⟨_,Rs.cell rfl rfl Ev.hM rfl rfl Rs.nil,_,Sub.none _,⟨_,rfl,?_⟩,rfl,rfl⟩
    have e1:e.at k=e.kids[j]:=atK_at hi.nodup (by rw [List.getElem?_eq_getElem hlt,(by simpa using hc3:e.keys[j]=k)]) hlt2
    rw [e1];exact rr
   ·have hnk:e.keys[j]≠k:=by simpa using hc3
    refine Ev.gT ?_
    refine Wk.inv ⟨_,by omega,j+1,hlt,rfl,rfl,rfl,fun y h hy=>?_,Ev.kM⟩
    by_cases q:y=j
    ·subst q;exact hnk
    ·exact hne y h Ev.wM
  ·exfalso;simp at hc2;omega
 ·have hjn:j=e.keys.length:=by simp at hc;omega
  refine Ev.gT ?_
  refine Wk.ret ⟨_,Rs.cell rfl rfl Ev.hM rfl rfl Rs.nil,_,Sub.none _,⟨_,rfl,?_⟩,rfl,rfl⟩
  have e1:e.at k=El.bot:=atK_none fun hx=>by
   obtain ⟨y,hy,rfl⟩:=List.getElem_of_mem hx
   exact hne y hy Ev.wM rfl
  rw [e1];exact ElR_bot Z
end Go.Proofs.J
namespace Go.Proofs.J
open Go.Ev Go
theorem clone_:∀ (d:Nat) {s:El} {Z:Zone} {cs:List Value},s.Fit d→ElR Z s cs →
  Cz M (.func (.func 106) #[] #[]) [.agg ⟨cs⟩] Z [] (fun v' Z' A'=>∃ cs',v'=.agg ⟨cs'⟩∧ElR Z' s cs'∧A'=[])
 | 0,s,Z,cs,ht,h=>ht.pos.elim
 | d+1,s,Z,cs,ht,h=>by
  obtain ⟨a1,c1,a2,c2,us,rfl,hk,hl,hL⟩:=h.form
  have t1:=ht.sm.1
  have t2:=ht.sm.2.1
  refine Cz.fn (f:=Tryz.f106) Ev.cM rfl rfl rfl _ rfl ?_
  repeat first|refine go ?_|with_reducible intro _
  rename_i b1 b2
  refine Wk.call rfl rfl (Spl.none _) (cloneI2 hk t1 (okCells_int _)) rfl rfl rfl ?_
  rintro v5 Z5 A' hz5 ⟨rfl,rfl⟩
  first|apply Wk.olFreezer (v:=v5)|apply Wk.olFreeze (v:=v5)
  case p=>repeat (first|exact Rem.head|apply Rem.tail)
  intro Z1 e1 h5
  obtain ⟨x5,y5,rfl⟩:=h5.form
  refine Ev.gT ?_
  refine Wk.olNil 4 ?_
  refine Wk.loop (fun mm L Z' A'=>∃ (j:Nat) (vk:Value) (ks:List Value),j≤s.kids.length∧mm=s.kids.length - j∧Ext Z1 Z'∧A'=[ol 4 vk j ks,pt b2 _,pt b1 (.cells [.int .u8 s.kind,.int .i64 s.n,.slice x5 s.keys.length y5,.slice a2 s.kids.length c2] true 0)] ∧
   ElRL Z' (s.kids.take j) ks∧Kp L [(1,.pointer (some ⟨b1,0,none⟩)),(2,.pointer (some ⟨b2,0,none⟩)),(3,vk),(11,.slice a2 s.kids.length c2),(12,.int .i64 s.kids.length),(13,.int .i64 j)]) s.kids.length ⟨0,_,[],Nat.zero_le _,rfl,Ext.refl _,rfl,by simp [ElRL],Ev.kM⟩ ?_
  rintro mm L Z' A' - ⟨j,vk,ks,hj,rfl,hz,rfl,hks,hk2⟩
  refine Wk.kp hk2 ?_
  clear hk2
  have hs':=hl.mono (e1.trans hz)
  refine Ev.gT ?_
  refine Wk.cond rfl (fun hc=>?_) (fun hc=>?_)
  ·have hlt:j < s.kids.length:=by simp at hc;omega
   clear hc
   obtain ⟨k,n,x1,m1,y1,x2,m2,y2,g1,r1⟩:=hL.get j hlt
   repeat first|refine go ?_|with_reducible intro _
   rename_i b9 _ _ _
   refine Wk.call rfl rfl (Spl.none _) (clone_ d (ht.kid hlt) (r1.mono (e1.trans hz))) rfl rfl rfl ?_
   rintro v24 Z2 A' hz2 ⟨cs',rfl,hR,rfl⟩
   obtain ⟨p1,q1,p2,q2,us2,rfl,_,_,_⟩:=hR.form
   refine Ev.gT ?_
   refine Wk.bs (cs:=[.int .u8 s.kids[j].kind,.int .i64 s.kids[j].n,.slice p1 s.kids[j].keys.length q1,.slice p2 s.kids[j].kids.length q2]) rfl rfl rfl rfl rfl rfl rfl fun b50=>?_
   refine Wk.append (kk:=1) (new:=[.int .u8 s.kids[j].kind,.int .i64 s.kids[j].n,.slice p1 s.kids[j].keys.length q1,.slice p2 s.kids[j].kids.length q2]) rfl rfl rfl rfl rfl rfl rfl rfl Ev.rM (Src.lit Ev.hM rfl) rfl rfl rfl Ev.wM Ev.wM rfl rfl rfl fun v51=>?_
   refine Wk.dropr (.keep (.drop (.drop (Sub.refl _)))) ?_
   refine Ev.gT ?_
   refine Wk.inv ⟨_,by omega,j+1,_,_,hlt,rfl,hz.trans hz2,rfl,?_,Ev.kM⟩
   rw [List.take_succ_eq_append_getElem hlt]
   exact ElRL.snoc hR (hks.mono hz2)
  ·have hjd:j=s.kids.length:=by simp at hc;omega
   subst hjd
   rw [List.take_length] at hks
   first|apply Wk.olFreezer (v:=vk)|apply Wk.olFreeze (v:=vk)
   case p=>repeat (first|exact Rem.head|apply Rem.tail)
   intro Z2 e2 hP
   obtain ⟨aP,cP,rfl⟩:=hP.form
   refine Ev.gT ?_
   refine Wk.ret ⟨_,Rs.cell rfl rfl Ev.hM rfl rfl Rs.nil,_,Sub.none _,_,rfl,ElR.of (by simpa using h5.mono (hz.trans e2)) hP (hks.mono e2),rfl⟩
end Go.Proofs.J
namespace Go.Proofs.J
open Go.Ev Go
theorem has1 {Z:Zone} {bt b2:Nat} {t:Tbl} (h:TabR Z bt t) (i:Int) (a:Nat) (ha:a < t.elems.length) (h2:Z b2=some (.cells [.pointer (some ⟨bt,0,none⟩)] true 0)) :
  Cz M (.func (.func 215) #[] ⟨[.pointer (some ⟨b2,0,none⟩)]⟩) [.int .i64 i,.int .i64 a] Z [] (fun v' Z' A'=>v'=.bool true∧Z=Z'∧A'=[]):=by
 obtain ⟨nm,ve,va,vw,vs,us,hz,htb,_,_⟩:=h.rep
 obtain ⟨pe,ce,rfl⟩:=htb.elems.form
 refine Cz.fn (f:=Tryz.f215) Ev.cM rfl rfl rfl _ rfl ?_
 refine Ev.gT ?_
 refine Wk.ret ⟨_,Rs.tmp rfl Rs.nil,_,Sub.none _,by simp [outOf,ha],rfl,rfl⟩
theorem has_ok {Z:Zone} {bt:Nat} {t:Tbl} (h:TabR Z bt t) {vl:Value} {l:List Nat} (sl:Sl Z 1 vl l.length (nats l)) (hl:l.length≤1000000) (hin:∀ a∈l,a < t.elems.length) :
  Cz M (.func (.func 187) #[] #[]) [.pointer (some ⟨bt,0,none⟩),vl] Z [] (fun v' Z' A'=>v'=.int .i64 0∧Z=Z'∧A'=[]):=by
 refine Cz.shrink ?_
 refine Cz.fn (f:=Tryz.f187) Ev.cM rfl rfl rfl _ rfl ?_
 repeat first|refine go ?_|with_reducible intro _
 first|refine Wk.freezer Rem.head fun Z1 e1 h2=>?_|refine Wk.freeze Rem.head fun Z1 e1 h2=>?_
 refine Wk.call rfl rfl (Spl.none _) (allInt (fun i=>True) (sl.mono e1) hl (fun i u hi hu=>by
  rw [nats_get hi] at hu
  obtain rfl:=Option.some.inj hu
  exact (has1 (h.mono e1) i l[i] (hin _ (List.getElem_mem hi)) h2).mono fun v' Z' A' _ q=>⟨⟨true,q.1,by simp⟩,q.2⟩)) rfl rfl rfl ?_
 rintro v' Z' A' hz ⟨⟨b,rfl,hb⟩,rfl,rfl⟩
 have:b=true:=hb.2 fun _ _=>trivial
 subst this
 refine Ev.gT ?_
 refine Wk.ret ⟨_,Rs.tmp rfl Rs.nil,_,Sub.none _,rfl,rfl⟩
theorem lattice_ok {Z:Zone} {nm:ByteArray} {ve va vw:Value} {t:Tbl} (h:TbR Z nm ve va vw t) (ht:t.Sm) (ok:t.Ok) (hL:t.Lat) {vl:Value} {l:List Nat} (sl:Sl Z 1 vl l.length (nats l)) (hl:l.length≤1000000) (hin:∀ a∈l,a < t.elems.length) :
  Cz M (.func (.func 152) #[] #[]) [.agg ⟨[.string nm,ve,va,vw]⟩,vl] Z [] (fun v' Z' A'=>(∃ bt,v'=.tuple ⟨[.pointer (some ⟨bt,0,none⟩),.int .i64 0]⟩∧TabR Z' bt t)∧A'=[]):=by
 refine Cz.fn (f:=Tryz.f152) Ev.cM rfl rfl rfl _ rfl ?_
 repeat first|refine go ?_|with_reducible intro _
 refine Wk.call rfl rfl (Spl.none _) (open_ h ht) rfl rfl rfl ?_
 rintro v' Z1 A' hz ⟨⟨_,bt,rfl,hT⟩|⟨no,_⟩,rfl⟩
 ·refine Ev.gT ?_
  refine Wk.call rfl rfl (Spl.none _) (broken_ hT) rfl rfl rfl ?_
  rintro v' Z' A' hz1 ⟨⟨k,x,y,f,rfl,hf⟩,rfl,rfl⟩
  have:f=false:=by
   cases f
   ·rfl
   ·exact absurd hL (hf.1 rfl)
  subst this
  repeat first|refine go ?_|with_reducible intro _
  refine Wk.call rfl rfl (Spl.none _) (has_ok hT (sl.mono hz) hl hin) rfl rfl rfl ?_
  rintro v' Z' A' hz1 ⟨rfl,rfl,rfl⟩
  refine Ev.gT ?_
  refine Wk.ret ⟨_,Rs.tmp rfl (Rs.tmp rfl Rs.nil),_,Sub.none _,⟨bt,rfl,hT⟩,rfl⟩
 ·exact absurd ok no
theorem oJoin {Z:Zone} {nm:ByteArray} {ve va vw:Value} {t:Tbl} (h:TbR Z nm ve va vw t) (ht:t.Sm) (ok:t.Ok) (hL:t.Lat) (hok:okCells [.string nm,ve,va,vw]=true) (a b:Nat) (ha:a < t.elems.length) (hb:b < t.elems.length) :
  Cz M (.func (.func 107) #[] #[]) [.agg ⟨[.string nm,ve,va,vw]⟩,.int .i64 a,.int .i64 b] Z [] (fun v' Z' A'=>v'=.tuple ⟨[.int .i64 (t.jn a b:Nat),.int .i64 0]⟩∧Z=Z'∧A'=[]):=by
 refine Cz.shrink ?_
 refine Cz.fn (f:=Tryz.f107) Ev.cM rfl rfl rfl _ rfl ?_
 repeat first|refine go ?_|with_reducible intro _
 refine Wk.bs (cs:=[.int .i64 a,.int .i64 b]) rfl rfl rfl rfl rfl rfl rfl fun b9=>?_
 first|refine Wk.freezer Rem.head fun Z1 e1 h9=>?_|refine Wk.freeze Rem.head fun Z1 e1 h9=>?_
 have sl:Sl Z1 1 (.slice (some ⟨b9,0,none⟩) 2 2) 2 (nats [a,b]):=.inr ⟨b9,0,2,_,_,_,rfl,Nat.le_refl _,h9,rfl,.inl rfl⟩
 refine Ev.gT ?_
 refine Wk.call rfl rfl (Spl.none _) (lattice_ok (h.mono e1) ht ok hL (l:=[a,b]) sl (by simp) (by simp [ha,hb])) rfl rfl rfl ?_
 rintro v' Z2 A' hz1 ⟨⟨bt,rfl,hT⟩,rfl⟩
 refine Ev.gT ?_
 refine Wk.call rfl rfl (Spl.none _) (join_ hT a b ha hb) rfl rfl rfl ?_
 rintro v' Z' A' hz2 ⟨⟨x,f,rfl,hf1,hf2⟩,rfl,rfl⟩
 have:f=true:=by
  cases f
  ·exact absurd (hL.ex ha hb) (hf2 rfl)
  ·rfl
 subst this
 obtain ⟨c,rfl,hc⟩:=hf1 rfl
 obtain rfl:=hc.eq hL ha hb
 refine Ev.gT ?_
 refine Wk.ret ⟨_,Rs.tmp rfl (Rs.tmp rfl Rs.nil),_,Sub.none _,rfl,rfl⟩
end Go.Proofs.J
namespace Go.Proofs.J
open Go.Ev Go
theorem rJoinT {Z:Zone} {nm:ByteArray} {ve va vw:Value} {t:Tbl} (h:TbR Z nm ve va vw t) (ht:t.Sm) (ok:t.Ok) (hL:t.Lat) (hok:okCells [.string nm,ve,va,vw]=true) (a b:Nat) (ha:a < t.elems.length) (hb:b < t.elems.length) :
  Cz M (.func (.func 110) #[] #[]) [.agg ⟨[.string nm,ve,va,vw]⟩,.int .i64 a,.int .i64 b] Z [] (fun v' Z' A'=>v'=.int .i64 (t.jn a b:Nat)∧Z=Z'∧A'=[]):=by
 refine Cz.shrink ?_
 have hn12:t.elems.length≤12:=ok.2.2.1
 refine Cz.fn (f:=Tryz.f110) Ev.cM rfl rfl rfl _ rfl ?_
 repeat first|refine go ?_|with_reducible intro _
 refine Wk.call rfl rfl (Spl.none _) (rRel h ht ok hok) rfl rfl rfl ?_
 rintro v1 Z1 A' hz ⟨hR,rfl⟩
 refine Ev.gT ?_
 refine Wk.call rfl rfl (Spl.none _) (rBounds hR ok a b ha hb) rfl rfl rfl ?_
 rintro v2 Z2 A' hz1 ⟨rfl,l,hl,rfl⟩
 first|apply Wk.olFreezer (v:=v2)|apply Wk.olFreeze (v:=v2)
 case p=>repeat (first|exact Rem.head|apply Rem.tail)
 intro Z2 e2 h2
 have hin:∀ x∈l,x < t.elems.length:=fun x hx=>((hl.mem x).1 hx).1
 have hll:l.length≤1000000:=by have:=hl.len;omega
 refine Ev.gT ?_
 refine Wk.call rfl rfl (Spl.none _) (rLeast (hR.mono e2) ok h2 hll hin) rfl rfl rfl ?_
 rintro v' Z' A' hz3 ⟨⟨r,rfl,hr⟩,rfl,rfl⟩
 have hj:=hL.jn ha hb
 have hcl:t.jn a b∈l:=(hl.mem _).2 ⟨hj.1,hj.2.1,hj.2.2.1⟩
 rcases hr with ⟨c,hc,rfl,hle⟩|⟨rfl,hno⟩
 ·have hcb:=(hl.mem c).1 hc
  have hJ:t.Jn a b c:=⟨hcb.1,hcb.2.1,hcb.2.2,fun d h1 h2 h3=>hle d ((hl.mem d).2 ⟨h1,h2,h3⟩)⟩
  obtain rfl:=hJ.eq hL ha hb
  refine Ev.gT ?_
  refine Wk.ret ⟨_,Rs.tmp rfl Rs.nil,_,Sub.none _,rfl,rfl⟩
 ·exfalso
  exact hno _ hcl fun d hd=>let ⟨q1,q2,q3⟩:=(hl.mem d).1 hd;hj.2.2.2 d q1 q2 q3
end Go.Proofs.J
namespace Go.Proofs.J
open Go.Ev Go
theorem mrg_length:∀ (a b:List Int),(mrg a b).length≤a.length+b.length
 | [],b=>by rw [mrg];simp
 | x::a,[]=>by rw [mrg];simp
 | x::a,y::b=>by
  rw [mrg]
  have h1:=mrg_length a (y::b)
  have h2:=mrg_length (x::a) b
  simp only [List.length_cons] at h1 h2 ⊢
  split
  ·simp only [List.length_cons];omega
  ·split
   ·simp only [List.length_cons];omega
   ·omega
 termination_by a b=>a.length+b.length
theorem ElR_flat (Z:Zone) (k n:Int):ElR Z (.mk k n [] []) [.int .u8 k,.int .i64 n,.slice none 0 0,.slice none 0 0]:=by
 simp only [ElR]
 exact ⟨_,_,[],rfl,.inl ⟨rfl,rfl,rfl⟩,.inl ⟨rfl,rfl,rfl⟩,by simp [ElRL]⟩
theorem join_e {ts:List Tbl} (T:TsOk ts):∀ (d:Nat) {Z:Zone} {cl sc ca cb:List Value} {l:Lat} {s:Shp} {a b:El},l.1=ts→LatR Z cl l→ShR Z s sc→ElR Z a ca→ElR Z b cb→IsW ts d s a→IsW ts d s b→¬ a.Great→¬ b.Great→s.Ok →
  Cz M (.func (.func 71) #[] #[]) [.agg ⟨cl⟩,.agg ⟨sc⟩,.agg ⟨ca⟩,.agg ⟨cb⟩] Z [] (fun v' Z' A'=>∃ cs',v'=.agg ⟨cs'⟩∧ElR Z' (joinE ts d s a b) cs'∧A'=[])
 | 0,Z,cl,sc,ca,cb,l,s,a,b,hts,hl,hs,ha,hb,wa,wb,ga,gb,so=>absurd wa (by simp [IsW])
 | d+1,Z,cl,sc,ca,cb,l,s,a,b,hts,hl,hs,ha,hb,wa,wb,ga,gb,so=>by
  have hl0:=hl
  have hs0:=hs
  have ha0:=ha
  have hb0:=hb
  have fa:=wa.fit T.ok ga
  have fb:=wb.fit T.ok gb
  obtain ⟨l1,l2,l3,l4,rfl,hT,_⟩:=hl.form
  obtain ⟨p1,p2,usk,rfl,hsk,hsL⟩:=hs.form
  obtain ⟨q1,q2,q3,q4,ua,rfl,ak,as_,aL⟩:=ha.form
  obtain ⟨r1,r2,r3,r4,ub,rfl,bk,bs_,bL⟩:=hb.form
  refine Cz.fn (f:=Tryz.f71) Ev.cM rfl rfl rfl _ rfl ?_
  repeat first|refine go ?_|with_reducible intro _
  rename_i b4 b5 b6 b7 b8
  refine Wk.call rfl rfl (Spl.none _) (isBottom ha0) rfl rfl rfl ?_
  rintro v' Z' A' hz ⟨⟨ba,rfl,hba⟩,rfl,rfl⟩
  refine Ev.gT ?_
  refine Wk.cond rfl (fun hc=>?_) (fun hc=>?_)
  ·have e0:a=El.bot:=El.Bot_iff.1 (hba.1 hc)
   refine Ev.gT ?_
   refine Wk.call rfl rfl (Spl.none _) (clone_ (d+1) fb hb0) rfl rfl rfl ?_
   rintro v' Z' A' hz ⟨cs',rfl,hR,rfl⟩
   obtain ⟨x1,x2,x3,x4,ux,rfl,_,_,_⟩:=hR.form
   refine Ev.gT ?_
   refine Wk.ret ⟨_,Rs.cell rfl rfl Ev.hM rfl rfl Rs.nil,_,Sub.none _,_,rfl,?_,rfl⟩
   rw [e0,joinE_botl];exact hR
  have na:a≠El.bot:=fun e=>by rw [hba.2 (El.Bot_iff.2 e)] at hc;cases hc
  refine Ev.gT ?_
  refine Wk.call rfl rfl (Spl.none _) (isBottom hb0) rfl rfl rfl ?_
  rintro v' Z' A' hz ⟨⟨bb,rfl,hbb⟩,rfl,rfl⟩
  refine Ev.gT ?_
  refine Wk.cond rfl (fun hc=>?_) (fun hc=>?_)
  ·have e0:b=El.bot:=El.Bot_iff.1 (hbb.1 hc)
   refine Ev.gT ?_
   refine Wk.call rfl rfl (Spl.none _) (clone_ (d+1) fa ha0) rfl rfl rfl ?_
   rintro v' Z' A' hz ⟨cs',rfl,hR,rfl⟩
   obtain ⟨x1,x2,x3,x4,ux,rfl,_,_,_⟩:=hR.form
   refine Ev.gT ?_
   refine Wk.ret ⟨_,Rs.cell rfl rfl Ev.hM rfl rfl Rs.nil,_,Sub.none _,_,rfl,?_,rfl⟩
   rw [e0,joinE_botr];exact hR
  have nb:b≠El.bot:=fun e=>by rw [hbb.2 (El.Bot_iff.2 e)] at hc;cases hc
  clear hc
  rcases wa.kinds na with k|k|k|k|k|k|k<;>rw [k]
  ·-- flags
   refine Ev.gT ?_
   refine Wk.call rfl rfl (Spl.none _) (clone_ (d+1) fa ha0) rfl rfl rfl ?_
   rintro v' Z' A' hz ⟨cs',rfl,hR,rfl⟩
   obtain ⟨x1,x2,x3,x4,ux,rfl,_,_,_⟩:=hR.form
   refine Ev.gT ?_
   refine Wk.ret ⟨_,Rs.cell rfl rfl Ev.hM rfl rfl Rs.nil,_,Sub.none _,_,rfl,?_,rfl⟩
   rw [joinE_1 na nb k];exact hR
  ·-- highest
   obtain ⟨m,hm,rfl⟩:=wa.inv2 na k
   obtain ⟨n,hn,rfl⟩:=wb.inv2 nb k
   refine Ev.gT ?_
   refine Wk.ret ⟨_,Rs.cell rfl rfl Ev.hM rfl rfl Rs.nil,_,Sub.none _,_,rfl,?_,rfl⟩
   rw [joinE_2 na nb k]
   have e1:(if n > m then n else m)=max m n:=by rw [Int.max_def];split<;>split<;>omega
   show ElR _ (.mk 2 (max m n) [] []) [.int .u8 2,.int .i64 (if n > m then n else m),.slice none 0 0,.slice none 0 0]
   rw [e1]
   exact ElR_flat _ _ _
  ·-- once
   rw [joinE_4 na nb k]
   refine Ev.gT ?_
   refine Wk.caser 40 rfl (fun h1=>?_) (fun h1=>?_)
   ·have h1:a.kind=2:=by simpa using h1
    refine Ev.gT ?_
    refine Wk.caser 45 rfl (fun h2=>?_) (fun h2=>?_)
    ·have h2:b.kind=2:=by simpa using h2
     refine Ev.gT ?_
     refine Wk.cond rfl (fun h3=>?_) (fun h3=>?_)
     ·have h3:a.n=b.n:=by simpa using h3
      refine Ev.gT ?_
      refine Wk.ret ⟨_,Rs.cell rfl rfl Ev.hM rfl rfl Rs.nil,_,Sub.none _,_,rfl,?_,rfl⟩
      rw [if_pos ⟨h1,h2,h3⟩];exact ha0
     ·have h3:¬ a.n=b.n:=by simpa using h3
      refine Ev.gT ?_
      refine Wk.ret ⟨_,Rs.cell rfl rfl Ev.hM rfl rfl Rs.nil,_,Sub.none _,_,rfl,?_,rfl⟩
      rw [if_neg fun q=>h3 q.2.2];exact ElR_flat _ 3 0
    ·have h2:¬ b.kind=2:=by simpa using h2
     refine Ev.gT ?_
     refine Wk.ret ⟨_,Rs.cell rfl rfl Ev.hM rfl rfl Rs.nil,_,Sub.none _,_,rfl,?_,rfl⟩
     rw [if_neg fun q=>h2 q.2.1];exact ElR_flat _ 3 0
   ·have h1:¬ a.kind=2:=by simpa using h1
    refine Ev.gT ?_
    refine Wk.ret ⟨_,Rs.cell rfl rfl Ev.hM rfl rfl Rs.nil,_,Sub.none _,_,rfl,?_,rfl⟩
    rw [if_neg fun q=>h1 q.1];exact ElR_flat _ 3 0
  ·-- named
   obtain ⟨t,m,ht,hm1,hm2,rfl⟩:=wa.inv5 na k
   obtain ⟨t',n,ht',hn1,hn2,rfl⟩:=wb.inv5 nb k
   obtain rfl:=ht.uniq ht'
   rw [joinE_5 na nb k]
   have htm:t∈l.1:=by rw [hts];exact ht.mem
   refine Ev.gT ?_
   refine Wk.drawr (ms:=[0,0,3,0,8,0,32,127,255,511,511,1023,4095]) (l:=[0,1,3,4,5,6,2,7,8,9,10,11,12]) Ev.cM Ev.cM Ev.cM rfl ?_
   refine Ev.gT ?_
   refine Wk.callD rfl rfl (Spl.none _) (table_ (l:=l) (s:=s) (by simpa using hl0) (by rw [←k];exact hs0) (by rw [hts];exact T.len) ⟨t,htm,by rcases ht with ⟨_,_,_,h,_⟩;exact h⟩) rfl rfl fun v59 Z9 A' hz9 hq=>?_
   obtain ⟨⟨t',nm,a1,m1,c1,a2,m2,c2,a3,m3,c3,rfl,hto,htb⟩,rfl,rfl⟩:=hq
   rw [hts] at hto
   obtain rfl:=ht.uniq hto
   refine ⟨?_,?_⟩
   ·exact Ev.pM2
   refine Ev.gT ?_
   refine Wk.call rfl rfl (Spl.none _) (oJoin htb (T.sm _ ht.mem) (T.ok _ ht.mem) (T.lat _ ht.mem) rfl m n hm2 hn2) Ev.cM rfl rfl ?_
   rintro v' Z' A' hz ⟨rfl,rfl,rfl⟩
   refine Ev.gT ?_
   refine Wk.ret ⟨_,Rs.cell rfl rfl Ev.hM rfl rfl Rs.nil,_,Sub.none _,_,rfl,?_,rfl⟩
   rw [ht.eq]
   exact ElR_flat _ 4 _
  ·-- sets
   obtain ⟨ks,hk,rfl⟩:=wa.inv3 na k
   obtain ⟨ks',hk',rfl⟩:=wb.inv3 nb k
   rw [joinE_3 na nb k]
   have g1:ks.length≤40:=(small_iff.1 ga).1
   have g2:ks'.length≤40:=(small_iff.1 gb).1
   refine Ev.gT ?_
   refine Wk.call rfl rfl (Spl.none _) (keys_ ak bk hk hk' (show ks.length≤100000 by omega) (show ks'.length≤100000 by omega)) rfl rfl rfl ?_
   rintro v7 Z7 A' hz rfl
   first|apply Wk.olFreezer (v:=v7)|apply Wk.olFreeze (v:=v7)
   case p=>repeat (first|exact Rem.head|apply Rem.tail)
   intro Z8 e8 h8
   obtain ⟨x1,x2,rfl⟩:=h8.form
   refine Ev.gT ?_
   refine Wk.ret ⟨_,Rs.cell rfl rfl Ev.hM rfl rfl Rs.nil,_,Sub.none _,_,rfl,?_,rfl⟩
   exact ElR.of (s:=.mk 5 0 (mrg ks ks') []) h8 (.inl ⟨rfl,rfl,rfl⟩) (by simp [ElRL,El.kids])
  ·-- maps
   obtain ⟨k0,ks,ls,e0,hk,hla,hxa,rfl⟩:=wa.inv6 na k
   obtain ⟨k0',ks',ls',e0',hk',hlb,hxb,rfl⟩:=wb.inv6 nb k
   obtain rfl:k0=k0':=by rw [e0] at e0';exact Option.some.inj e0'
   rw [joinE_6 na nb k,Shp.kid_eq e0]
   have sa:=small_iff.1 ga
   have sb:=small_iff.1 gb
   have g1:ks.length≤40:=sa.1
   have g2:ks'.length≤40:=sb.1
   have hd:∃ d',d=d'+1:=kids_pos hk hla hxa
   have hk00:0 < s.kids.length:=by
    rcases Nat.lt_or_ge 0 s.kids.length with h|h
    ·exact h
    ·rw [List.getElem?_eq_none h] at e0;cases e0
   obtain ⟨j0,n0,a0,m0,c0,gs0,rs0⟩:=hsL.get 0 hk00
   have so0:k0.Ok:=so.kids_.2 _ (List.mem_of_getElem? e0)
   rw [show s.kids[0]=k0 by rw [List.getElem?_eq_getElem hk00] at e0;exact Option.some.inj e0] at rs0
   have hkm:=hk.mrg hk'
   have hml:(mrg ks ks').length≤80:=by
    have:=mrg_length ks ks';omega
   refine Ev.gT ?_
   refine Wk.call rfl rfl (Spl.none _) (keys_ ak bk hk hk' (show ks.length≤100000 by omega) (show ks'.length≤100000 by omega)) rfl rfl rfl ?_
   rintro v7 Z7 A' hz rfl
   first|apply Wk.olFreezer (v:=v7)|apply Wk.olFreeze (v:=v7)
   case p=>repeat (first|exact Rem.head|apply Rem.tail)
   intro Z8 e8 h8
   have e78:=hz.trans e8
   obtain ⟨x1,x2,rfl⟩:=h8.form
   repeat first|refine go ?_|with_reducible intro _
   rename_i b11
   have hkd:mrg (El.mk 6 0 ks ls).keys (El.mk 6 0 ks' ls').keys=mrg ks ks':=rfl
   rw [hkd] at h8 ⊢
   generalize hM:mrg ks ks'=mm at *
   refine Wk.olNil 4 ?_
   refine Wk.loop (fun w L Z' A'=>∃ (j:Nat) (vk:Value) (us:List Value),j≤mm.length∧w=mm.length - j∧Ext Z8 Z'∧A'=[ol 4 vk j us,pt b11 (.cells [.int .u8 6,.int .i64 0,.slice x1 mm.length x2,vk] true 0),pt b8 _,pt b7 _,pt b6 _,pt b5 _,pt b4 _] ∧
    ElRL Z' ((mm.take j).map fun k=>joinE ts d k0 ((El.mk 6 0 ks ls).at k) ((El.mk 6 0 ks' ls').at k)) us∧Kp L [(4,.pointer (some ⟨b4,0,none⟩)),(5,.pointer (some ⟨b5,0,none⟩)),(6,.pointer (some ⟨b6,0,none⟩)),(7,.pointer (some ⟨b7,0,none⟩)),(8,.pointer (some ⟨b8,0,none⟩)),(11,.pointer (some ⟨b11,0,none⟩)),(86,.slice x1 mm.length x2),(87,.int .i64 mm.length),(88,.int .i64 j)]) mm.length ⟨0,_,[],Nat.zero_le _,rfl,Ext.refl _,rfl,by simp [ElRL],Ev.kM⟩ ?_
   rintro w L Z' A' - ⟨j,vk,us,hj,rfl,hz9,rfl,hus,hkp⟩
   refine Wk.kp hkp ?_
   clear hkp
   have h8':=h8.mono hz9
   have hsk':=hsk.mono (e78.trans hz9)
   refine Ev.gT ?_
   refine Wk.cond rfl (fun hc=>?_) (fun hc=>?_)
   ·have hlt:j < mm.length:=by simp at hc;omega
    clear hc
    have wA:=at_W hd hla hxa mm[j]
    have wB:=at_W hd hlb hxb mm[j]
    repeat first|refine go ?_|with_reducible intro _
    refine Wk.drawr (ms:=[0,1,0,0,8,24,56,0,0,384,0,0,3968,8188,16380,32767,65535,131071]) (l:=[0,1,2,3,4,5,6,7,8,10,11,9,12,13,14,15,16,17]) Ev.cM Ev.cM Ev.cM rfl ?_
    first|refine Wk.knowr Ev.rM (fun s h=>ol.form (v:=vk) h) ?_|refine Wk.know Ev.rM (fun s h=>ol.form (v:=vk) h) ?_
    rintro ⟨aB,cB,rfl⟩
    repeat first|refine go ?_|with_reducible intro _
    refine Wk.callD rfl rfl (Spl.none _) (at_ (k:=mm[j]) (ha0.mono (e78.trans hz9)) hk.inc hla (show ks.length≤1000000 by omega)) rfl rfl fun v101 Z9 A' hz10 hq=>?_
    obtain ⟨⟨ca,rfl,hcA⟩,rfl,rfl⟩:=hq
    obtain ⟨y1,y2,y3,y4,uy,rfl,_,_,_⟩:=hcA.form
    refine ⟨?_,?_⟩
    ·exact Ev.pM2
    refine Ev.gT ?_
    refine Wk.callD rfl rfl (Spl.none _) (at_ (k:=mm[j]) (hb0.mono (e78.trans hz9)) hk'.inc hlb (show ks'.length≤1000000 by omega)) rfl rfl fun v104 Z9 A' hz10 hq=>?_
    obtain ⟨⟨cb,rfl,hcB⟩,rfl,rfl⟩:=hq
    obtain ⟨z1,z2,z3,z4,uz,rfl,_,_,_⟩:=hcB.form
    refine ⟨?_,?_⟩
    ·exact Ev.pM2
    refine Ev.gT ?_
    refine Wk.callD rfl rfl (Spl.none _) (join_e T d hts (hl0.mono (e78.trans hz9)) (rs0.mono (e78.trans hz9)) hcA hcB wA wB (at_small sa.2 _) (at_small sb.2 _) so0) rfl rfl fun v105 Z9 A' hz11 hq=>?_
    obtain ⟨cs',rfl,hR,rfl⟩:=hq
    obtain ⟨w1,w2,w3,w4,uw,rfl,_,_,_⟩:=hR.form
    refine ⟨?_,?_⟩
    ·exact Ev.pM2
    refine Ev.gT ?_
    refine Wk.bs (cs:=[.int .u8 _,.int .i64 _,.slice w1 _ w2,.slice w3 _ w4]) rfl rfl rfl rfl rfl rfl rfl fun b50=>?_
    refine Wk.append (kk:=1) (new:=[.int .u8 _,.int .i64 _,.slice w1 _ w2,.slice w3 _ w4]) rfl rfl rfl rfl rfl rfl rfl rfl Ev.rM (Src.lit Ev.hM rfl) rfl rfl rfl Ev.wM Ev.wM Ev.cM rfl rfl fun v51=>?_
    refine Wk.dropr (.keep (.drop (Sub.refl _))) ?_
    first|refine Wk.knowr Ev.rM (fun s h=>ol.form (v:=v51) h) ?_|refine Wk.know Ev.rM (fun s h=>ol.form (v:=v51) h) ?_
    rintro ⟨a51,c51,rfl⟩
    refine Ev.gT ?_
    refine Wk.inv ⟨_,by omega,j+1,_,_,hlt,rfl,hz9.trans hz11,rfl,?_,Ev.kM⟩
    rw [List.take_succ_eq_append_getElem hlt,List.map_append]
    exact ElRL.snoc hR (hus.mono hz11)
   ·have hjd:j=mm.length:=by simp at hc;omega
    subst hjd
    rw [List.take_length] at hus
    first|apply Wk.olFreezer (v:=vk)|apply Wk.olFreeze (v:=vk)
    case p=>repeat (first|exact Rem.head|apply Rem.tail)
    intro Z10 e10 hP
    obtain ⟨aP,cP,rfl⟩:=hP.form
    refine Ev.gT ?_
    refine Wk.ret ⟨_,Rs.cell rfl rfl Ev.hM rfl rfl Rs.nil,_,Sub.none _,_,rfl,?_,rfl⟩
    refine ElR.of (s:=.mk 6 0 mm (mm.map fun k=>joinE ts d k0 ((El.mk 6 0 ks ls).at k) ((El.mk 6 0 ks' ls').at k))) ((h8.mono (hz9.trans e10))) ?_ (hus.mono e10)
    simpa [El.kids] using hP
  ·-- pairs
   obtain ⟨k0,k1,x,y,e0,e1,hx,hy,hn,rfl⟩:=wa.inv7 na k
   obtain ⟨k0',k1',x',y',e0',e1',hx',hy',hn',rfl⟩:=wb.inv7 nb k
   obtain rfl:k0=k0':=by rw [e0] at e0';exact Option.some.inj e0'
   obtain rfl:k1=k1':=by rw [e1] at e1';exact Option.some.inj e1'
   rw [joinE_7 na nb k]
   have sa:=(small_iff.1 ga).2
   have sb:=(small_iff.1 gb).2
   have hkl:s.kids.length=2:=by
    have:=so.kids_.1
    rw [k] at this
    simpa [kidsOf] using this.symm
   have hI:∀ i,i < 2→IsW ts d (s.kid i) ((El.mk 7 0 [] [x,y]).kd i)∧IsW ts d (s.kid i) ((El.mk 7 0 [] [x',y']).kd i)∧¬ ((El.mk 7 0 [] [x,y]).kd i).Great∧¬ ((El.mk 7 0 [] [x',y']).kd i).Great:=by
    intro i hi
    rcases (by omega:i=0∨i=1) with rfl|rfl
    ·rw [Shp.kid_eq e0];exact ⟨hx,hx',sa x (by simp [El.kids]),sb x' (by simp [El.kids])⟩
    ·rw [Shp.kid_eq e1];exact ⟨hy,hy',sa y (by simp [El.kids]),sb y' (by simp [El.kids])⟩
   have hkA:∀ i (h:i < (El.mk 7 0 [] [x,y]).kids.length),(El.mk 7 0 [] [x,y]).kids[i]=(El.mk 7 0 [] [x,y]).kd i:=fun i h=>by simp [El.kd,h]
   have hkB:∀ i (h:i < (El.mk 7 0 [] [x',y']).kids.length),(El.mk 7 0 [] [x',y']).kids[i]=(El.mk 7 0 [] [x',y']).kd i:=fun i h=>by simp [El.kd,h]
   have hkS:∀ i (h:i < s.kids.length),s.kids[i]=s.kid i:=fun i h=>(Shp.kid_eq (List.getElem?_eq_getElem h)).symm
   repeat first|refine go ?_|with_reducible intro _
   rename_i b14
   refine Wk.olNil 4 ?_
   refine Wk.loop (fun w L Z' A'=>∃ (j:Nat) (vk:Value) (us:List Value),j≤2∧w=2 - j∧Ext Z Z'∧A'=[ol 4 vk j us,pt b14 (.cells [.int .u8 7,.int .i64 0,.slice none 0 0,vk] true 0),pt b8 _,pt b7 _,pt b6 _,pt b5 _,pt b4 _] ∧
    ElRL Z' ((List.range j).map fun i=>joinE ts d (s.kid i) ((El.mk 7 0 [] [x,y]).kd i) ((El.mk 7 0 [] [x',y']).kd i)) us∧Kp L [(4,.pointer (some ⟨b4,0,none⟩)),(5,.pointer (some ⟨b5,0,none⟩)),(6,.pointer (some ⟨b6,0,none⟩)),(7,.pointer (some ⟨b7,0,none⟩)),(8,.pointer (some ⟨b8,0,none⟩)),(14,.pointer (some ⟨b14,0,none⟩)),(115,.slice p1 s.kids.length p2),(116,.int .i64 s.kids.length),(117,.int .i64 j)]) 2 ⟨0,_,[],Nat.zero_le _,rfl,Ext.refl _,rfl,by simp [ElRL],Ev.kM⟩ ?_
   rintro w L Z' A' - ⟨j,vk,us,hj,rfl,hz9,rfl,hus,hkp⟩
   refine Wk.kp hkp ?_
   clear hkp
   have hsk':=hsk.mono hz9
   refine Ev.gT ?_
   refine Wk.cond rfl (fun hc=>?_) (fun hc=>?_)
   ·have hlt:j < s.kids.length:=by simp at hc;omega
    clear hc
    obtain ⟨j0,n0,a0,m0,c0,gs0,rs0⟩:=hsL.get j hlt
    have jA:j < (El.mk 7 0 [] [x,y]).kids.length:=show j < 2 by omega
    have jB:j < (El.mk 7 0 [] [x',y']).kids.length:=show j < 2 by omega
    obtain ⟨ka,na',xa1,ma1,ya1,xa2,ma2,ya2,ga1,ra1⟩:=aL.get j jA
    obtain ⟨kb,nb',xb1,mb1,yb1,xb2,mb2,yb2,gb1,rb1⟩:=bL.get j jB
    have so0:(s.kid j).Ok:=by rw [←hkS j hlt];exact so.kids_.2 _ (List.getElem_mem hlt)
    obtain ⟨w1,w2,w3,w4⟩:=hI j Ev.wM
    rw [hkA] at ra1
    rw [hkB] at rb1
    rw [hkS j hlt] at rs0
    have as':=as_.mono hz9
    have bs':=bs_.mono hz9
    repeat first|refine go ?_|with_reducible intro _
    refine Wk.drawr (ms:=[0,1,0,0,0,16,0,112,240,0,512,0,3584,7680,16380,32764,65535,131071,262143]) (l:=[0,1,2,3,4,5,6,7,8,9,10,11,12,13,14,15,16,17,18]) Ev.cM Ev.cM Ev.cM rfl ?_
    first|refine Wk.knowr Ev.rM (fun s h=>ol.form (v:=vk) h) ?_|refine Wk.know Ev.rM (fun s h=>ol.form (v:=vk) h) ?_
    rintro ⟨aB,cB,rfl⟩
    repeat first|refine go ?_|with_reducible intro _
    refine Wk.callD rfl rfl (Spl.none _) (join_e T d hts (hl0.mono hz9) (rs0.mono hz9) (ra1.mono hz9) (rb1.mono hz9) w1 w2 w3 w4 so0) rfl rfl fun v105 Z9 A' hz11 hq=>?_
    obtain ⟨cs',rfl,hR,rfl⟩:=hq
    obtain ⟨w1,w2,w3,w4,uw,rfl,_,_,_⟩:=hR.form
    refine ⟨?_,?_⟩
    ·exact Ev.pM2
    refine Ev.gT ?_
    refine Wk.bs (cs:=[.int .u8 _,.int .i64 _,.slice w1 _ w2,.slice w3 _ w4]) rfl rfl rfl rfl rfl rfl rfl fun b50=>?_
    refine Wk.append (kk:=1) (new:=[.int .u8 _,.int .i64 _,.slice w1 _ w2,.slice w3 _ w4]) rfl rfl rfl rfl rfl rfl rfl rfl Ev.rM (Src.lit Ev.hM rfl) rfl rfl rfl Ev.wM Ev.wM Ev.cM rfl rfl fun v51=>?_
    refine Wk.dropr (.keep (.drop (.drop (Sub.refl _)))) ?_
    first|refine Wk.knowr Ev.rM (fun s h=>ol.form (v:=v51) h) ?_|refine Wk.know Ev.rM (fun s h=>ol.form (v:=v51) h) ?_
    rintro ⟨a51,c51,rfl⟩
    refine Ev.gT ?_
    refine Wk.inv ⟨_,by omega,j+1,_,_,by omega,rfl,hz9.trans hz11,rfl,?_,Ev.kM⟩
    rw [List.range_succ,List.map_append]
    exact ElRL.snoc hR (hus.mono hz11)
   ·have hjd:j=2:=by simp at hc;omega
    subst hjd
    first|apply Wk.olFreezer (v:=vk)|apply Wk.olFreeze (v:=vk)
    case p=>repeat (first|exact Rem.head|apply Rem.tail)
    intro Z10 e10 hP
    obtain ⟨aP,cP,rfl⟩:=hP.form
    refine Ev.gT ?_
    refine Wk.ret ⟨_,Rs.cell rfl rfl Ev.hM rfl rfl Rs.nil,_,Sub.none _,_,rfl,?_,rfl⟩
    exact ElR.of (s:=.mk 7 0 [] [joinE ts d (s.kid 0) ((El.mk 7 0 [] [x,y]).kd 0) ((El.mk 7 0 [] [x',y']).kd 0),joinE ts d (s.kid 1) ((El.mk 7 0 [] [x,y]).kd 1) ((El.mk 7 0 [] [x',y']).kd 1)]) (.inl ⟨rfl,rfl,rfl⟩) hP (hus.mono e10)
end Go.Proofs.J
namespace Go.Proofs.J
open Go.Ev Go
theorem drop_one {x:List Int}:((nums x).drop (1*1)).take ((x.length - 1)*1)=nums (x.drop 1):=by
 rw [Nat.mul_one,Nat.mul_one,List.take_of_length_le (by simp)]
 simp [List.map_drop]
theorem mrg_l {x y:List Int} (hx:0 < x.length) (h:y=[]∨∃ hy:0 < y.length,x[0] < y[0]):mrg x y=x[0]::mrg (x.drop 1) y:=by
 cases x with
 | nil=>simp at hx
 | cons a x =>
  rcases h with rfl|⟨hy,h⟩
  ·rw [mrg_nilr,List.drop_one,List.tail_cons,mrg_nilr];rfl
  ·cases y with
   | nil=>simp at hy
   | cons b y =>
    have h':a < b:=h
    rw [mrg,if_pos h'];rfl
theorem mrg_r {x y:List Int} (hy:0 < y.length) (h:x=[]∨∃ hx:0 < x.length,y[0] < x[0]):mrg x y=y[0]::mrg x (y.drop 1):=by
 cases y with
 | nil=>simp at hy
 | cons b y =>
  rcases h with rfl|⟨hx,h⟩
  ·rw [mrg_nil,List.drop_one,List.tail_cons,mrg_nil];rfl
  ·cases x with
   | nil=>simp at hx
   | cons a x =>
    have h':b < a:=h
    rw [mrg,if_neg Ev.wM,if_pos h'];rfl
theorem mrg_e {x y:List Int} (hx:0 < x.length) (hy:0 < y.length) (h:x[0]=y[0]):mrg x y=mrg (x.drop 1) y:=by
 cases x with
 | nil=>simp at hx
 | cons a x =>
  cases y with
  | nil=>simp at hy
  | cons b y =>
   have h':a=b:=h
   rw [mrg,if_neg Ev.wM,if_neg Ev.wM];rfl
theorem rBoth {Z:Zone} {va vb:Value} {a b:List Int} (h1:Sl Z 1 va a.length (nums a)) (h2:Sl Z 1 vb b.length (nums b)) (ha:a.length≤100000) (hb:b.length≤100000) :
  Cz M (.func (.func 111) #[] #[]) [va,vb] Z [] (fun v' Z' A'=>Z=Z'∧A'=[ol 1 v' (mrg a b).length (nums (mrg a b))]):=by
 have hml:=mrg_length a b
 obtain ⟨qa,ca,rfl⟩:=h1.form
 obtain ⟨qb,cb,rfl⟩:=h2.form
 refine Cz.fn (f:=Tryz.f111) Ev.cM rfl rfl rfl _ rfl ?_
 refine Ev.gT ?_
 refine Wk.olNil 1 ?_
 refine Wk.loop (fun w L Z' A'=>∃ (x y o:List Int) (vo:Value) (qx qy:Option Addr) (cx cy:Nat),w=x.length+y.length∧Z=Z'∧A'=[ol 1 vo o.length (nums o)]∧x.length≤a.length∧y.length≤b.length∧Sl Z 1 (.slice qx x.length cx) x.length (nums x)∧Sl Z 1 (.slice qy y.length cy) y.length (nums y)∧o++mrg x y=mrg a b∧Kp L [(0,.slice qx x.length cx),(1,.slice qy y.length cy),(5,vo)]) (a.length+b.length) ⟨a,b,[],_,_,_,_,_,rfl,rfl,rfl,Nat.le_refl _,Nat.le_refl _,h1,h2,rfl,Ev.kM⟩ ?_
 rintro w L Z' A' - ⟨x,y,o,vo,qx,qy,cx,cy,rfl,rfl,rfl,hx,hy,sx,sy,ho,hk⟩
 refine Wk.kp hk ?_
 clear hk
 have hol:o.length+(mrg x y).length=(mrg a b).length:=by rw [←ho,List.length_append]
 first|refine Wk.knowr Ev.rM (fun s h=>ol.form (v:=vo) h) ?_|refine Wk.know Ev.rM (fun s h=>ol.form (v:=vo) h) ?_
 rintro ⟨qo,co,rfl⟩
 refine Ev.gT ?_
 refine Wk.caser 9 rfl (fun hc=>?_) (fun hc=>?_)
 ·have x0:0 < x.length:=by simp at hc;exact hc
  clear hc
  refine Ev.gT ?_
  refine Wk.drawr (ms:=[0,1,3,7,15,31,63,127,255,511,1023,255,2303,6399,16383,32767,65535,131071]) (l:=[0,1,2,3,4,5,6,7,8,9,10,11,12,13,14,15,16,17]) Ev.cM Ev.cM Ev.cM rfl ?_
  refine Ev.gT ?_
  refine Wk.caser 20 rfl (fun hc=>?_) (fun hc=>?_)
  ·have y0:y=[]:=by simpa using hc
   clear hc
   refine Ev.gT ?_
   refine Wk.drawr (ms:=[0,0,2,6,14,31,0,64,63,511]) (l:=[0,1,2,3,4,6,7,5,8,9]) Ev.cM Ev.cM Ev.cM rfl ?_
   repeat first|refine go ?_|with_reducible intro _
   refine Wk.bs (cs:=[.int .i64 x[0]]) rfl rfl rfl rfl rfl rfl rfl fun b38=>?_
   refine Ev.gT ?_
   refine Wk.sliceSlR (l:=1) (h:=x.length) sx rfl rfl rfl rfl rfl rfl rfl rfl rfl rfl rfl ⟨rfl,rfl,by omega,by omega,trivial⟩ fun v41 s41 r41=>?_
   rw [drop_one,show x.length - 1=(x.drop 1).length by simp] at s41
   refine Wk.appendD rfl rfl rfl rfl rfl rfl rfl rfl Ev.rM (Src.lit Ev.hM rfl) rfl rfl rfl Ev.wM Ev.wM rfl rfl fun v39=>⟨?_,?_⟩
   ·repeat (first|exact PnAll.done|refine PnAll.two ?_|refine PnAll.skip rfl ?_|refine PnAll.keep (r41 _) s41.veq ?_)
   refine Wk.dropr (.keep (.drop (Sub.refl _))) ?_
   obtain ⟨q41,c41,rfl⟩:=s41.form
   refine Ev.gT ?_
   refine Wk.inv ⟨_,by simp only [List.length_drop];omega,x.drop 1,y,o++[x[0]],v39,_,_,_,_,rfl,rfl,by simp [nums],by first|omega|(simp only [List.length_drop];omega),by first|omega|(simp only [List.length_drop];omega),s41,sy,by rw [←ho,mrg_l x0 (.inl y0)];simp,Ev.kM⟩
  ·have y0:0 < y.length:=by
    rcases Nat.eq_zero_or_pos y.length with h|h
    ·rw [h] at hc;cases hc
    ·exact h
   clear hc
   refine Ev.gT ?_
   refine Wk.caser 24 rfl (fun hc=>?_) (fun hc=>?_)
   ·clear hc
    repeat first|refine go ?_|with_reducible intro _
    refine Wk.cond rfl (fun hc=>?_) (fun hc=>?_)
    ·have hlt:x[0] < y[0]:=by simpa using hc
     clear hc
     refine Ev.gT ?_
     refine Wk.drawr (ms:=[0,0,2,6,14,31,0,64,63,511]) (l:=[0,1,2,3,4,6,7,5,8,9]) Ev.cM Ev.cM Ev.cM rfl ?_
     repeat first|refine go ?_|with_reducible intro _
     refine Wk.bs (cs:=[.int .i64 x[0]]) rfl rfl rfl rfl rfl rfl rfl fun b38=>?_
     refine Ev.gT ?_
     refine Wk.sliceSlR (l:=1) (h:=x.length) sx rfl rfl rfl rfl rfl rfl rfl rfl rfl rfl rfl ⟨rfl,rfl,by omega,by omega,trivial⟩ fun v41 s41 r41=>?_
     rw [drop_one,show x.length - 1=(x.drop 1).length by simp] at s41
     refine Wk.appendD rfl rfl rfl rfl rfl rfl rfl rfl Ev.rM (Src.lit Ev.hM rfl) rfl rfl rfl Ev.wM Ev.wM rfl rfl fun v39=>⟨?_,?_⟩
     ·repeat (first|exact PnAll.done|refine PnAll.two ?_|refine PnAll.skip rfl ?_|refine PnAll.keep (r41 _) s41.veq ?_)
     refine Wk.dropr (.keep (.drop (Sub.refl _))) ?_
     obtain ⟨q41,c41,rfl⟩:=s41.form
     refine Ev.gT ?_
     refine Wk.inv ⟨_,by simp only [List.length_drop];omega,x.drop 1,y,o++[x[0]],v39,_,_,_,_,rfl,rfl,by simp [nums],by first|omega|(simp only [List.length_drop];omega),by first|omega|(simp only [List.length_drop];omega),s41,sy,by rw [←ho,mrg_l x0 (.inr ⟨y0,hlt⟩)];simp,Ev.kM⟩
    ·have hge:¬ x[0] < y[0]:=by simpa using hc
     clear hc
     refine Ev.gT ?_
     refine Wk.drawr (ms:=[0,1,3,7,15,31,63,15,143,399,1023,2047,4095]) (l:=[0,1,2,3,4,5,6,7,8,9,10,11,12]) Ev.cM Ev.cM Ev.cM rfl ?_
     refine Ev.gT ?_
     refine Wk.caser 46 rfl (fun hc=>?_) (fun hc=>?_)
     ·exfalso;simp at hc;subst hc;simp at x0
     clear hc
     repeat first|refine go ?_|with_reducible intro _
     refine Wk.cond rfl (fun hc=>?_) (fun hc=>?_)
     ·have hlt:y[0] < x[0]:=by simpa using hc
      clear hc
      refine Ev.gT ?_
      refine Wk.drawr (ms:=[0,0,2,6,14,31,0,64,63,511]) (l:=[0,1,2,3,4,6,7,5,8,9]) Ev.cM Ev.cM Ev.cM rfl ?_
      repeat first|refine go ?_|with_reducible intro _
      refine Wk.bs (cs:=[.int .i64 y[0]]) rfl rfl rfl rfl rfl rfl rfl fun b38=>?_
      refine Ev.gT ?_
      refine Wk.sliceSlR (l:=1) (h:=y.length) sy rfl rfl rfl rfl rfl rfl rfl rfl rfl rfl rfl ⟨rfl,rfl,by omega,by omega,trivial⟩ fun v41 s41 r41=>?_
      rw [drop_one,show y.length - 1=(y.drop 1).length by simp] at s41
      refine Wk.appendD rfl rfl rfl rfl rfl rfl rfl rfl Ev.rM (Src.lit Ev.hM rfl) rfl rfl rfl Ev.wM Ev.wM rfl rfl fun v39=>⟨?_,?_⟩
      ·repeat (first|exact PnAll.done|refine PnAll.two ?_|refine PnAll.skip rfl ?_|refine PnAll.keep (r41 _) s41.veq ?_)
      refine Wk.dropr (.keep (.drop (Sub.refl _))) ?_
      obtain ⟨q41,c41,rfl⟩:=s41.form
      refine Ev.gT ?_
      refine Wk.inv ⟨_,by simp only [List.length_drop];omega,x,y.drop 1,o++[y[0]],v39,_,_,_,_,rfl,rfl,by simp [nums],by first|omega|(simp only [List.length_drop];omega),by first|omega|(simp only [List.length_drop];omega),sx,s41,by rw [←ho,mrg_r y0 (.inr ⟨x0,hlt⟩)];simp,Ev.kM⟩
     ·have heq:x[0]=y[0]:=by simp at hc;omega
      clear hc
      refine Ev.gT ?_
      refine Wk.sliceSl (l:=1) (h:=x.length) sx rfl rfl rfl rfl rfl rfl rfl rfl rfl rfl rfl ⟨rfl,rfl,by omega,by omega,trivial⟩ fun v41 s41=>?_
      rw [drop_one,show x.length - 1=(x.drop 1).length by simp] at s41
      obtain ⟨q41,c41,rfl⟩:=s41.form
      refine Ev.gT ?_
      refine Wk.inv ⟨_,by simp only [List.length_drop];omega,x.drop 1,y,o,_,_,_,_,_,rfl,rfl,rfl,by simp only [List.length_drop];omega,by omega,s41,sy,by rw [←ho,mrg_e x0 y0 heq],Ev.kM⟩
   ·exfalso;simp at hc;subst hc;simp at x0
 ·have x0:x=[]:=by simpa using hc
  clear hc
  refine Ev.gT ?_
  refine Wk.cond rfl (fun hc=>?_) (fun hc=>?_)
  ·have y0:0 < y.length:=by simp at hc;exact hc
   clear hc
   refine Ev.gT ?_
   refine Wk.drawr (ms:=[0,1,3,7,15,31,63,127,255,511,1023,255,2303,6399,16383,32767,65535,131071]) (l:=[0,1,2,3,4,5,6,7,8,9,10,11,12,13,14,15,16,17]) Ev.cM Ev.cM Ev.cM rfl ?_
   refine Ev.gT ?_
   refine Wk.caser 20 rfl (fun hc=>?_) (fun hc=>?_)
   ·exfalso;simp at hc;subst hc;simp at y0
   clear hc
   refine Ev.gT ?_
   refine Wk.caser 24 rfl (fun hc=>?_) (fun hc=>?_)
   ·exfalso;subst x0;simp at hc
   clear hc
   refine Ev.gT ?_
   refine Wk.drawr (ms:=[0,1,3,7,15,31,63,15,143,399,1023,2047,4095]) (l:=[0,1,2,3,4,5,6,7,8,9,10,11,12]) Ev.cM Ev.cM Ev.cM rfl ?_
   refine Ev.gT ?_
   refine Wk.caser 46 rfl (fun hc=>?_) (fun hc=>?_)
   ·clear hc
    refine Ev.gT ?_
    refine Wk.drawr (ms:=[0,0,2,6,14,31,0,64,63,511]) (l:=[0,1,2,3,4,6,7,5,8,9]) Ev.cM Ev.cM Ev.cM rfl ?_
    repeat first|refine go ?_|with_reducible intro _
    refine Wk.bs (cs:=[.int .i64 y[0]]) rfl rfl rfl rfl rfl rfl rfl fun b38=>?_
    refine Ev.gT ?_
    refine Wk.sliceSlR (l:=1) (h:=y.length) sy rfl rfl rfl rfl rfl rfl rfl rfl rfl rfl rfl ⟨rfl,rfl,by omega,by omega,trivial⟩ fun v41 s41 r41=>?_
    rw [drop_one,show y.length - 1=(y.drop 1).length by simp] at s41
    refine Wk.appendD rfl rfl rfl rfl rfl rfl rfl rfl Ev.rM (Src.lit Ev.hM rfl) rfl rfl rfl Ev.wM Ev.wM rfl rfl fun v39=>⟨?_,?_⟩
    ·repeat (first|exact PnAll.done|refine PnAll.two ?_|refine PnAll.skip rfl ?_|refine PnAll.keep (r41 _) s41.veq ?_)
    refine Wk.dropr (.keep (.drop (Sub.refl _))) ?_
    obtain ⟨q41,c41,rfl⟩:=s41.form
    refine Ev.gT ?_
    refine Wk.inv ⟨_,by simp only [List.length_drop];omega,x,y.drop 1,o++[y[0]],v39,_,_,_,_,rfl,rfl,by simp [nums],by first|omega|(simp only [List.length_drop];omega),by first|omega|(simp only [List.length_drop];omega),sx,s41,by rw [←ho,mrg_r y0 (.inl x0)];simp,Ev.kM⟩
   ·exfalso;subst x0;simp at hc
  ·have y0:y=[]:=by simpa using hc
   subst x0;subst y0
   rw [mrg_nil,List.append_nil] at ho
   subst ho
   refine Ev.gT ?_
   refine Wk.ret ⟨_,Rs.tmp rfl Rs.nil,_,Sub.refl _,rfl,rfl⟩
end Go.Proofs.J
namespace Go.Proofs.J
open Go.Ev Go
theorem rJoinOf {ts:List Tbl} (T:TsOk ts):∀ (d:Nat) {Z:Zone} {vt:Value} {sc ca cb:List Value} {s:Shp} {a b:El},TbsR Z vt ts→ShR Z s sc→ElR Z a ca→ElR Z b cb→IsW ts d s a→IsW ts d s b→¬ a.Great→¬ b.Great→s.Ok →
  Cz M (.func (.func 75) #[] #[]) [vt,.agg ⟨sc⟩,.agg ⟨ca⟩,.agg ⟨cb⟩] Z [] (fun v' Z' A'=>∃ cs',v'=.agg ⟨cs'⟩∧ElR Z' (joinE ts d s a b) cs'∧A'=[])
 | 0,Z,vt,sc,ca,cb,s,a,b,hl,hs,ha,hb,wa,wb,ga,gb,so=>absurd wa (by simp [IsW])
 | d+1,Z,vt,sc,ca,cb,s,a,b,hl,hs,ha,hb,wa,wb,ga,gb,so=>by
  have hl0:=hl
  have hs0:=hs
  have ha0:=ha
  have hb0:=hb
  have fa:=wa.fit T.ok ga
  have fb:=wb.fit T.ok gb
  obtain ⟨l1,l2,rfl⟩:=hl.form
  obtain ⟨p1,p2,usk,rfl,hsk,hsL⟩:=hs.form
  obtain ⟨q1,q2,q3,q4,ua,rfl,ak,as_,aL⟩:=ha.form
  obtain ⟨r1,r2,r3,r4,ub,rfl,bk,bs_,bL⟩:=hb.form
  refine Cz.fn (f:=Tryz.f75) Ev.cM rfl rfl rfl _ rfl ?_
  repeat first|refine go ?_|with_reducible intro _
  rename_i b5 b6 b7 b8
  refine Wk.call rfl rfl (Spl.none _) (rIsBottom ha0) rfl rfl rfl ?_
  rintro v' Z' A' hz ⟨⟨ba,rfl,hba⟩,rfl,rfl⟩
  refine Ev.gT ?_
  refine Wk.cond rfl (fun hc=>?_) (fun hc=>?_)
  ·have e0:a=El.bot:=El.Bot_iff.1 (hba.1 hc)
   refine Ev.gT ?_
   refine Wk.call rfl rfl (Spl.none _) (copyEl (d+1) fb hb0) rfl rfl rfl ?_
   rintro v' Z' A' hz ⟨cs',rfl,hR,rfl⟩
   obtain ⟨x1,x2,x3,x4,ux,rfl,_,_,_⟩:=hR.form
   refine Ev.gT ?_
   refine Wk.ret ⟨_,Rs.cell rfl rfl Ev.hM rfl rfl Rs.nil,_,Sub.none _,_,rfl,?_,rfl⟩
   rw [e0,joinE_botl];exact hR
  have na:a≠El.bot:=fun e=>by rw [hba.2 (El.Bot_iff.2 e)] at hc;cases hc
  refine Ev.gT ?_
  refine Wk.call rfl rfl (Spl.none _) (rIsBottom hb0) rfl rfl rfl ?_
  rintro v' Z' A' hz ⟨⟨bb,rfl,hbb⟩,rfl,rfl⟩
  refine Ev.gT ?_
  refine Wk.cond rfl (fun hc=>?_) (fun hc=>?_)
  ·have e0:b=El.bot:=El.Bot_iff.1 (hbb.1 hc)
   refine Ev.gT ?_
   refine Wk.call rfl rfl (Spl.none _) (copyEl (d+1) fa ha0) rfl rfl rfl ?_
   rintro v' Z' A' hz ⟨cs',rfl,hR,rfl⟩
   obtain ⟨x1,x2,x3,x4,ux,rfl,_,_,_⟩:=hR.form
   refine Ev.gT ?_
   refine Wk.ret ⟨_,Rs.cell rfl rfl Ev.hM rfl rfl Rs.nil,_,Sub.none _,_,rfl,?_,rfl⟩
   rw [e0,joinE_botr];exact hR
  have nb:b≠El.bot:=fun e=>by rw [hbb.2 (El.Bot_iff.2 e)] at hc;cases hc
  clear hc
  rcases wa.kinds na with k|k|k|k|k|k|k<;>rw [k]
  ·-- flags
   refine Ev.gT ?_
   refine Wk.call rfl rfl (Spl.none _) (copyEl (d+1) fa ha0) rfl rfl rfl ?_
   rintro v' Z' A' hz ⟨cs',rfl,hR,rfl⟩
   obtain ⟨x1,x2,x3,x4,ux,rfl,_,_,_⟩:=hR.form
   refine Ev.gT ?_
   refine Wk.ret ⟨_,Rs.cell rfl rfl Ev.hM rfl rfl Rs.nil,_,Sub.none _,_,rfl,?_,rfl⟩
   rw [joinE_1 na nb k];exact hR
  ·-- highest
   obtain ⟨m,hm,rfl⟩:=wa.inv2 na k
   obtain ⟨n,hn,rfl⟩:=wb.inv2 nb k
   refine Ev.gT ?_
   refine Wk.ret ⟨_,Rs.cell rfl rfl Ev.hM rfl rfl Rs.nil,_,Sub.none _,_,rfl,?_,rfl⟩
   rw [joinE_2 na nb k]
   have e1:(if n > m then n else m)=max m n:=by rw [Int.max_def];split<;>split<;>omega
   show ElR _ (.mk 2 (max m n) [] []) [.int .u8 2,.int .i64 (if n > m then n else m),.slice none 0 0,.slice none 0 0]
   rw [e1]
   exact ElR_flat _ _ _
  ·-- once
   rw [joinE_4 na nb k]
   refine Ev.gT ?_
   refine Wk.caser 36 rfl (fun h1=>?_) (fun h1=>?_)
   ·have h1:a.kind=b.kind:=by simpa using h1
    refine Ev.gT ?_
    refine Wk.cond rfl (fun h3=>?_) (fun h3=>?_)
    ·have h3:a.n=b.n:=by simpa using h3
     refine Ev.gT ?_
     refine Wk.call rfl rfl (Spl.none _) (copyEl (d+1) fa ha0) rfl rfl rfl ?_
     rintro v' Z' A' hz ⟨cs',rfl,hR,rfl⟩
     obtain ⟨x1,x2,x3,x4,ux,rfl,_,_,_⟩:=hR.form
     refine Ev.gT ?_
     refine Wk.ret ⟨_,Rs.cell rfl rfl Ev.hM rfl rfl Rs.nil,_,Sub.none _,_,rfl,?_,rfl⟩
     have e9:(if a.kind=2∧b.kind=2∧a.n=b.n then a else .mk 3 0 [] [])=a:=by
      rcases wa.inv4 na k with ⟨m,hm,rfl⟩|rfl
      ·rw [if_pos ⟨rfl,h1.symm,h3⟩]
      ·rw [if_neg (by simp [El.kind])]
     rw [e9];exact hR
    ·have h3:¬ a.n=b.n:=by simpa using h3
     refine Ev.gT ?_
     refine Wk.ret ⟨_,Rs.cell rfl rfl Ev.hM rfl rfl Rs.nil,_,Sub.none _,_,rfl,?_,rfl⟩
     rw [if_neg fun q=>h3 q.2.2];exact ElR_flat _ 3 0
   ·have h1:¬ a.kind=b.kind:=by simpa using h1
    refine Ev.gT ?_
    refine Wk.ret ⟨_,Rs.cell rfl rfl Ev.hM rfl rfl Rs.nil,_,Sub.none _,_,rfl,?_,rfl⟩
    rw [if_neg fun q=>h1 (q.1.trans q.2.1.symm)];exact ElR_flat _ 3 0
  ·-- named
   obtain ⟨t,m,ht,hm1,hm2,rfl⟩:=wa.inv5 na k
   obtain ⟨t',n,ht',hn1,hn2,rfl⟩:=wb.inv5 nb k
   obtain rfl:=ht.uniq ht'
   rw [joinE_5 na nb k]
   obtain ⟨i,hi,hti,hnm0,hfirst0⟩:=ht
   refine Ev.gT ?_
   refine Wk.drawr (ms:=[0,0,0,4,14,31,63,0,128,0,512,2047,4095,8191]) (l:=[0,1,2,3,7,8,9,10,4,5,6,11,12,13]) Ev.cM Ev.cM Ev.cM rfl ?_
   refine Ev.gT ?_
   refine Wk.callD rfl rfl (Spl.none _) (rNumber s.name hl0 T.len) rfl rfl fun v52 Z9 A' hz9 hq=>?_
   obtain ⟨⟨r,rfl,hr⟩,rfl,rfl⟩:=hq
   refine ⟨?_,?_⟩
   ·exact Ev.pM2
   rcases hr with ⟨i2,hi2,rfl,hnm,hfirst⟩|⟨rfl,hno⟩
   ·have ht2:Tof ts s.name ts[i2]:=⟨i2,hi2,rfl,hnm,hfirst⟩
    have ht:Tof ts s.name t:=⟨i,hi,hti,hnm0,hfirst0⟩
    obtain ⟨ust,hst,hrow⟩:=hl0
    obtain ⟨nm,x1,m1,y1,x2,m2,y2,x3,m3,y3,gt,htb⟩:=hrow i2 hi2
    rw [ht2.uniq ht] at htb
    repeat first|refine go ?_|with_reducible intro _
    refine Wk.call rfl rfl (Spl.none _) (rJoinT htb (T.sm _ ht.mem) (T.ok _ ht.mem) (T.lat _ ht.mem) rfl m n hm2 hn2) Ev.cM rfl rfl ?_
    rintro v' Z' A' hz ⟨rfl,rfl,rfl⟩
    refine Ev.gT ?_
    refine Wk.ret ⟨_,Rs.cell rfl rfl Ev.hM rfl rfl Rs.nil,_,Sub.none _,_,rfl,?_,rfl⟩
    rw [ht.eq]
    exact ElR_flat _ 4 _
   ·exfalso
    exact hno t (by rw [←hti];exact List.getElem_mem hi) hnm0
  ·-- sets
   obtain ⟨ks,hk,rfl⟩:=wa.inv3 na k
   obtain ⟨ks',hk',rfl⟩:=wb.inv3 nb k
   rw [joinE_3 na nb k]
   have g1:ks.length≤40:=(small_iff.1 ga).1
   have g2:ks'.length≤40:=(small_iff.1 gb).1
   refine Ev.gT ?_
   refine Wk.call rfl rfl (Spl.none _) (rBoth ak bk (show ks.length≤100000 by omega) (show ks'.length≤100000 by omega)) rfl rfl rfl ?_
   rintro v7 Z7 A' hz ⟨rfl,rfl⟩
   first|apply Wk.olFreezer (v:=v7)|apply Wk.olFreeze (v:=v7)
   case p=>repeat (first|exact Rem.head|apply Rem.tail)
   intro Z8 e8 h8
   obtain ⟨x1,x2,rfl⟩:=h8.form
   refine Ev.gT ?_
   refine Wk.ret ⟨_,Rs.cell rfl rfl Ev.hM rfl rfl Rs.nil,_,Sub.none _,_,rfl,?_,rfl⟩
   exact ElR.of (s:=.mk 5 0 (mrg ks ks') []) h8 (.inl ⟨rfl,rfl,rfl⟩) (by simp [ElRL,El.kids])
  ·-- maps
   obtain ⟨k0,ks,ls,e0,hk,hla,hxa,rfl⟩:=wa.inv6 na k
   obtain ⟨k0',ks',ls',e0',hk',hlb,hxb,rfl⟩:=wb.inv6 nb k
   obtain rfl:k0=k0':=by rw [e0] at e0';exact Option.some.inj e0'
   rw [joinE_6 na nb k,Shp.kid_eq e0]
   have sa:=small_iff.1 ga
   have sb:=small_iff.1 gb
   have g1:ks.length≤40:=sa.1
   have g2:ks'.length≤40:=sb.1
   have hd:∃ d',d=d'+1:=kids_pos hk hla hxa
   have hk00:0 < s.kids.length:=by
    rcases Nat.lt_or_ge 0 s.kids.length with h|h
    ·exact h
    ·rw [List.getElem?_eq_none h] at e0;cases e0
   obtain ⟨j0,n0,a0,m0,c0,gs0,rs0⟩:=hsL.get 0 hk00
   have so0:k0.Ok:=so.kids_.2 _ (List.mem_of_getElem? e0)
   rw [show s.kids[0]=k0 by rw [List.getElem?_eq_getElem hk00] at e0;exact Option.some.inj e0] at rs0
   have hkm:=hk.mrg hk'
   have hml:(mrg ks ks').length≤80:=by
    have:=mrg_length ks ks';omega
   refine Ev.gT ?_
   refine Wk.call rfl rfl (Spl.none _) (rBoth ak bk (show ks.length≤100000 by omega) (show ks'.length≤100000 by omega)) rfl rfl rfl ?_
   rintro v7 Z7 A' hz ⟨rfl,rfl⟩
   first|apply Wk.olFreezer (v:=v7)|apply Wk.olFreeze (v:=v7)
   case p=>repeat (first|exact Rem.head|apply Rem.tail)
   intro Z8 e8 h8
   have e78:=e8
   obtain ⟨x1,x2,rfl⟩:=h8.form
   repeat first|refine go ?_|with_reducible intro _
   rename_i b9
   have hkd:mrg (El.mk 6 0 ks ls).keys (El.mk 6 0 ks' ls').keys=mrg ks ks':=rfl
   rw [hkd] at h8 ⊢
   generalize hM:mrg ks ks'=mm at *
   refine Wk.olNil 4 ?_
   refine Wk.loop (fun w L Z' A'=>∃ (j:Nat) (vk:Value) (us:List Value),j≤mm.length∧w=mm.length - j∧Ext Z8 Z'∧A'=[ol 4 vk j us,pt b9 (.cells [.int .u8 6,.int .i64 0,.slice x1 mm.length x2,vk] true 0),pt b8 _,pt b7 _,pt b6 _,pt b5 _] ∧
    ElRL Z' ((mm.take j).map fun k=>joinE ts d k0 ((El.mk 6 0 ks ls).at k) ((El.mk 6 0 ks' ls').at k)) us∧Kp L [(0,.slice l1 ts.length l2),(5,.pointer (some ⟨b5,0,none⟩)),(6,.pointer (some ⟨b6,0,none⟩)),(7,.pointer (some ⟨b7,0,none⟩)),(8,.pointer (some ⟨b8,0,none⟩)),(9,.pointer (some ⟨b9,0,none⟩)),(10,.int .i64 j)]) mm.length ⟨0,_,[],Nat.zero_le _,rfl,Ext.refl _,rfl,by simp [ElRL],Ev.kM⟩ ?_
   rintro w L Z' A' - ⟨j,vk,us,hj,rfl,hz9,rfl,hus,hkp⟩
   refine Wk.kp hkp ?_
   clear hkp
   have h8':=h8.mono hz9
   have hsk':=hsk.mono (e78.trans hz9)
   refine Ev.gT ?_
   refine Wk.cond rfl (fun hc=>?_) (fun hc=>?_)
   ·have hlt:j < mm.length:=by simp at hc;omega
    clear hc
    have wA:=at_W hd hla hxa mm[j]
    have wB:=at_W hd hlb hxb mm[j]
    refine Ev.gT ?_
    refine Wk.drawr (ms:=[0,1,0,0,8,24,56,0,0,256,0,1792,3840,8064,0,0,32768,0,229376,491520,1048448,2097148,4194300,8388607,16777215,33554431]) (l:=[0,1,2,3,4,5,6,7,8,9,10,11,12,14,15,16,17,18,19,13,20,21,22,23,24,25]) Ev.cM Ev.cM Ev.cM rfl ?_
    first|refine Wk.knowr Ev.rM (fun s h=>ol.form (v:=vk) h) ?_|refine Wk.know Ev.rM (fun s h=>ol.form (v:=vk) h) ?_
    rintro ⟨aB,cB,rfl⟩
    repeat first|refine go ?_|with_reducible intro _
    refine Wk.callD rfl rfl (Spl.none _) (rAt (k:=mm[j]) (ha0.mono (e78.trans hz9)) hk.inc hla (show ks.length≤1000000 by omega)) rfl rfl fun v101 Z9 A' hz10 hq=>?_
    obtain ⟨⟨ca,rfl,hcA⟩,rfl,rfl⟩:=hq
    obtain ⟨y1,y2,y3,y4,uy,rfl,_,_,_⟩:=hcA.form
    refine ⟨?_,?_⟩
    ·exact Ev.pM2
    refine Ev.gT ?_
    refine Wk.callD rfl rfl (Spl.none _) (rAt (k:=mm[j]) (hb0.mono (e78.trans hz9)) hk'.inc hlb (show ks'.length≤1000000 by omega)) rfl rfl fun v104 Z9 A' hz10 hq=>?_
    obtain ⟨⟨cb,rfl,hcB⟩,rfl,rfl⟩:=hq
    obtain ⟨z1,z2,z3,z4,uz,rfl,_,_,_⟩:=hcB.form
    refine ⟨?_,?_⟩
    ·exact Ev.pM2
    refine Ev.gT ?_
    refine Wk.callD rfl rfl (Spl.none _) (rJoinOf T d (hl0.mono (e78.trans hz9)) (rs0.mono (e78.trans hz9)) hcA hcB wA wB (at_small sa.2 _) (at_small sb.2 _) so0) rfl rfl fun v105 Z9 A' hz11 hq=>?_
    obtain ⟨cs',rfl,hR,rfl⟩:=hq
    obtain ⟨w1,w2,w3,w4,uw,rfl,_,_,_⟩:=hR.form
    refine ⟨?_,?_⟩
    ·exact Ev.pM2
    refine Ev.gT ?_
    refine Wk.bs (cs:=[.int .u8 _,.int .i64 _,.slice w1 _ w2,.slice w3 _ w4]) rfl rfl rfl rfl rfl rfl rfl fun b50=>?_
    refine Wk.append (kk:=1) (new:=[.int .u8 _,.int .i64 _,.slice w1 _ w2,.slice w3 _ w4]) rfl rfl rfl rfl rfl rfl rfl rfl Ev.rM (Src.lit Ev.hM rfl) rfl rfl rfl Ev.wM Ev.wM Ev.cM rfl rfl fun v51=>?_
    refine Wk.dropr (.keep (.drop (Sub.refl _))) ?_
    first|refine Wk.knowr Ev.rM (fun s h=>ol.form (v:=v51) h) ?_|refine Wk.know Ev.rM (fun s h=>ol.form (v:=v51) h) ?_
    rintro ⟨a51,c51,rfl⟩
    refine Ev.gT ?_
    refine Wk.inv ⟨_,by omega,j+1,_,_,hlt,rfl,hz9.trans hz11,rfl,?_,Ev.kM⟩
    rw [List.take_succ_eq_append_getElem hlt,List.map_append]
    exact ElRL.snoc hR (hus.mono hz11)
   ·have hjd:j=mm.length:=by simp at hc;omega
    subst hjd
    rw [List.take_length] at hus
    first|apply Wk.olFreezer (v:=vk)|apply Wk.olFreeze (v:=vk)
    case p=>repeat (first|exact Rem.head|apply Rem.tail)
    intro Z10 e10 hP
    obtain ⟨aP,cP,rfl⟩:=hP.form
    refine Ev.gT ?_
    refine Wk.ret ⟨_,Rs.cell rfl rfl Ev.hM rfl rfl Rs.nil,_,Sub.none _,_,rfl,?_,rfl⟩
    refine ElR.of (s:=.mk 6 0 mm (mm.map fun k=>joinE ts d k0 ((El.mk 6 0 ks ls).at k) ((El.mk 6 0 ks' ls').at k))) ((h8.mono (hz9.trans e10))) ?_ (hus.mono e10)
    simpa [El.kids] using hP
  ·-- pairs
   obtain ⟨k0,k1,x,y,e0,e1,hx,hy,hn,rfl⟩:=wa.inv7 na k
   obtain ⟨k0',k1',x',y',e0',e1',hx',hy',hn',rfl⟩:=wb.inv7 nb k
   obtain rfl:k0=k0':=by rw [e0] at e0';exact Option.some.inj e0'
   obtain rfl:k1=k1':=by rw [e1] at e1';exact Option.some.inj e1'
   rw [joinE_7 na nb k]
   have sa:=(small_iff.1 ga).2
   have sb:=(small_iff.1 gb).2
   have hkl:s.kids.length=2:=by
    have:=so.kids_.1
    rw [k] at this
    simpa [kidsOf] using this.symm
   have hI:∀ i,i < 2→IsW ts d (s.kid i) ((El.mk 7 0 [] [x,y]).kd i)∧IsW ts d (s.kid i) ((El.mk 7 0 [] [x',y']).kd i)∧¬ ((El.mk 7 0 [] [x,y]).kd i).Great∧¬ ((El.mk 7 0 [] [x',y']).kd i).Great:=by
    intro i hi
    rcases (by omega:i=0∨i=1) with rfl|rfl
    ·rw [Shp.kid_eq e0];exact ⟨hx,hx',sa x (by simp [El.kids]),sb x' (by simp [El.kids])⟩
    ·rw [Shp.kid_eq e1];exact ⟨hy,hy',sa y (by simp [El.kids]),sb y' (by simp [El.kids])⟩
   have hkA:∀ i (h:i < (El.mk 7 0 [] [x,y]).kids.length),(El.mk 7 0 [] [x,y]).kids[i]=(El.mk 7 0 [] [x,y]).kd i:=fun i h=>by simp [El.kd,h]
   have hkB:∀ i (h:i < (El.mk 7 0 [] [x',y']).kids.length),(El.mk 7 0 [] [x',y']).kids[i]=(El.mk 7 0 [] [x',y']).kd i:=fun i h=>by simp [El.kd,h]
   have hkS:∀ i (h:i < s.kids.length),s.kids[i]=s.kid i:=fun i h=>(Shp.kid_eq (List.getElem?_eq_getElem h)).symm
   have j0:0 < s.kids.length:=by omega
   have j1:1 < s.kids.length:=by omega
   have jA0:0 < (El.mk 7 0 [] [x,y]).kids.length:=show 0 < 2 by omega
   have jA1:1 < (El.mk 7 0 [] [x,y]).kids.length:=show 1 < 2 by omega
   have jB0:0 < (El.mk 7 0 [] [x',y']).kids.length:=show 0 < 2 by omega
   have jB1:1 < (El.mk 7 0 [] [x',y']).kids.length:=show 1 < 2 by omega
   obtain ⟨js0,n0,a0,m0,c0,gs0,rs0⟩:=hsL.get 0 j0
   obtain ⟨js1,n1,a1,m1,c1,gs1,rs1⟩:=hsL.get 1 j1
   obtain ⟨ka,na',xa1,ma1,ya1,xa2,ma2,ya2,ga0,ra0⟩:=aL.get 0 jA0
   obtain ⟨kb,nb',xb1,mb1,yb1,xb2,mb2,yb2,gb0,rb0⟩:=bL.get 0 jB0
   obtain ⟨kc,nc',xc1,mc1,yc1,xc2,mc2,yc2,ga1,ra1⟩:=aL.get 1 jA1
   obtain ⟨kd,nd',xd1,md1,yd1,xd2,md2,yd2,gb1,rb1⟩:=bL.get 1 jB1
   rw [hkA] at ra0 ra1
   rw [hkB] at rb0 rb1
   rw [hkS] at rs0 rs1
   have so0:(s.kid 0).Ok:=by rw [←hkS 0 j0];exact so.kids_.2 _ (List.getElem_mem j0)
   have so1:(s.kid 1).Ok:=by rw [←hkS 1 j1];exact so.kids_.2 _ (List.getElem_mem j1)
   obtain ⟨w1,w2,w3,w4⟩:=hI 0 Ev.wM
   obtain ⟨u1,u2,u3,u4⟩:=hI 1 Ev.wM
   refine Ev.gT ?_
   refine Wk.drawr (ms:=[0,0,2,6,14,0,32,96,224,0,512,1536,3584,8191,0,0,32768,98304,229376,0,524288,1572864,3670016,0,8388608,25165824,58720256,134217727,268435455,536870911,1073741823]) (l:=[0,1,2,3,4,5,6,7,8,9,10,11,12,14,15,16,17,18,19,20,21,22,23,24,25,26,13,27,28,29,30]) Ev.cM Ev.cM Ev.cM rfl ?_
   repeat first|refine go ?_|with_reducible intro _
   refine Wk.callD rfl rfl (Spl.none _) (rJoinOf T d hl0 rs0 ra0 rb0 w1 w2 w3 w4 so0) rfl rfl fun v105 Z9 A' hz9 hq=>?_
   obtain ⟨cs',rfl,hR,rfl⟩:=hq
   obtain ⟨w1,w2,w3,w4,uw,rfl,_,_,_⟩:=hR.form
   refine ⟨?_,?_⟩
   ·exact Ev.pM2
   refine Ev.gT ?_
   refine Wk.callD rfl rfl (Spl.none _) (rJoinOf T d (hl0.mono hz9) (rs1.mono hz9) (ra1.mono hz9) (rb1.mono hz9) u1 u2 u3 u4 so1) rfl rfl fun v106 Z10 A' hz10 hq=>?_
   obtain ⟨cs',rfl,hR1,rfl⟩:=hq
   obtain ⟨z1,z2,z3,z4,uz,rfl,_,_,_⟩:=hR1.form
   refine ⟨?_,?_⟩
   ·exact Ev.pM2
   refine Ev.gT ?_
   refine Wk.bs (cs:=[.int .u8 _,.int .i64 _,.slice w1 _ w2,.slice w3 _ w4,.int .u8 _,.int .i64 _,.slice z1 _ z2,.slice z3 _ z4]) rfl rfl rfl rfl rfl rfl rfl fun b50=>?_
   first|refine Wk.freezer Rem.head fun Z11 e11 hb50=>?_|refine Wk.freeze Rem.head fun Z11 e11 hb50=>?_
   have hP:Sl Z11 4 (.slice (some ⟨b50,0,none⟩) 2 2) 2 _:=.inr ⟨b50,0,2,_,_,_,rfl,Nat.le_refl _,hb50,rfl,.inl rfl⟩
   refine Ev.gT ?_
   refine Wk.store rfl rfl rfl rfl rfl Ev.uM rfl Ev.cM rfl ?_
   refine Ev.gT ?_
   refine Wk.ret ⟨_,Rs.cell rfl rfl Ev.hM rfl rfl Rs.nil,_,Sub.none _,_,rfl,?_,rfl⟩
   refine ElR.of (s:=.mk 7 0 [] [joinE ts d (s.kid 0) ((El.mk 7 0 [] [x,y]).kd 0) ((El.mk 7 0 [] [x',y']).kd 0),joinE ts d (s.kid 1) ((El.mk 7 0 [] [x,y]).kd 1) ((El.mk 7 0 [] [x',y']).kd 1)]) (.inl ⟨rfl,rfl,rfl⟩) hP ?_
   have q1:=ElRL.snoc (hR.mono (hz10.trans e11)) (l:=[]) (us:=[]) (by simp [ElRL])
   exact ElRL.snoc (hR1.mono e11) q1
end Go.Proofs.J
