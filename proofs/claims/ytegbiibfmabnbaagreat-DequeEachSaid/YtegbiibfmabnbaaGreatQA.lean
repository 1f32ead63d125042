/- QA -/
import Derived.Test.YtegbiibfmabnbaaGreatSA
import Derived.Test.YtegbiibfmabnbaaGreatEvF
import Derived.Test.YtegbiibfmabnbaaGreatPL
set_option linter.unusedVariables false
set_option maxHeartbeats 4000000
set_option maxRecDepth 100000
set_option linter.unusedSimpArgs false
namespace Go.Proofs.J
open Go.Ev Go
abbrev nums (l:List Int):List Value:=l.map (Value.int .i64)
theorem nums_len (l:List Int):(nums l).length=l.length:=by simp
theorem ok_nums (l:List Int):okCells (nums l)=true:=by
 simp only [okCells,List.all_map,List.all_eq_true]
 intro a ha;rfl
theorem nums_append (a b:List Int):nums (a++b)=nums a++nums b:=by simp
theorem nums_get {l:List Int} {i off:Nat} (e:off=i) (h:i < l.length):getCells (nums l) off 1=some [.int .i64 l[i]]:=by
 subst e
 unfold getCells
 rw [if_pos (by simp;omega),List.drop_eq_getElem_cons (by simpa using h)]
 simp
theorem nums_set {l:List Int} {i off:Nat} {x:Int} (e:off=i) (h:i < l.length):setCells (nums l) off [.int .i64 x]=some (nums (l.set i x)):=by
 subst e
 unfold setCells
 rw [if_pos (by simp;omega)]
 congr 1
 simp only [nums]
 rw [List.map_set,List.set_eq_take_append_cons_drop,if_pos (by simpa using h)]
 rfl
theorem rep_nums (m:Nat):repCells [.int .i64 0] m=nums (List.replicate m 0):=by
 induction m with
 | zero=>rfl
 | succ m ih=>rw [repCells,ih,List.replicate_succ];rfl
theorem nums_clear {a:List Int} {k m off:Nat} (e:off=k) (h:k+m=a.length):setCells (nums a) off (repCells [.int .i64 0] m)=some (nums (a.take k++List.replicate m 0)):=by
 subst e
 unfold setCells
 rw [rep_nums,if_pos (by simp;omega)]
 congr 1
 have:(nums a).drop (off+(nums (List.replicate m 0)).length)=[]:=List.drop_eq_nil_of_le (by simp;omega)
 rw [this,List.append_nil]
 simp [List.map_take]
theorem cpt_snoc:∀ (l:List Int) (x y:Int),cpt (l++[x]++[y])=if x=y then cpt (l++[x]) else cpt (l++[x])++[y]
 | [],x,y=>by
  simp only [List.nil_append,List.cons_append,cpt]
  split
  ·rename_i h;rw [h]
  ·rfl
 | [z],x,y=>by
  have ih:=cpt_snoc [] x y
  simp only [List.nil_append,List.cons_append] at ih
  simp only [List.nil_append,List.cons_append,cpt] at ih ⊢
  by_cases h:z=x
  ·simp only [h,if_true];exact ih
  ·simp only [h,if_false]
   split
   ·rename_i h;rw [h]
   ·rfl
 | z::w::r,x,y=>by
  have ih:=cpt_snoc (w::r) x y
  simp only [List.cons_append] at ih ⊢
  rw [cpt,cpt,ih]
  by_cases h:z=w
  ·simp only [h,if_true]
  ·simp only [h,if_false]
   split<;>simp
theorem cpt_take {l:List Int} {m:Nat} (h1:1≤m) (h:m < l.length):cpt (l.take (m+1))=if l[m - 1]=l[m] then cpt (l.take m) else cpt (l.take m)++[l[m]]:=by
 obtain ⟨j,rfl⟩:∃ j,m=j+1:=⟨m - 1,by omega⟩
 have:=cpt_snoc (l.take j) l[j] l[j+1]
 rw [←List.take_succ_eq_append_getElem Ev.wM,←List.take_succ_eq_append_getElem h] at this
 exact this
theorem cpt_one (l:List Int):cpt (l.take 1)=l.take 1:=by cases l<;>simp [cpt]
theorem abounds_lo {n cp j:Nat} (h:j≤n) (hc:n≤cp):abounds n cp (some j) none none=some (j,n,cp):=by simp [abounds,h,hc]
theorem abounds_hi {n cp j:Nat} (h:j≤n) (hc:n≤cp):abounds n cp none (some j) none=some (0,j,cp):=by
 have:j≤cp:=by omega
 simp [abounds,this]
theorem compact_ {Z : Zone} {b n cp : Nat} {l : List Int} (hn : l.length = n) (h2 : 2 ≤ n) (hs : n ≤ 1000000) (hcap : n ≤ cp) :
    Cz M (.func (.func 95) #[] #[]) [.slice (some ⟨b, 0, none⟩) n cp] Z [olp b 1 (.slice (some ⟨b, 0, none⟩) n cp) n (nums l)] (fun v' Z' A' => Z = Z' ∧ A' = [ol 1 v' (cpt l).length (nums (cpt l))]) := by
  refine Cz.fn (f := Tryz.f95) (by kernel_rfl) rfl rfl rfl _ rfl ?_
  repeat first|refine go ?_|with_reducible intro _
  refine Wk.cond rfl (fun hc => ?_) (fun hc => ?_)
  · exfalso; simp at hc; omega
  repeat first|refine go ?_|with_reducible intro _
  refine Wk.loop (fun mm L Z' A' => ∃ j : Nat, 1 ≤ j ∧ j ≤ n ∧ mm = n - j ∧ Z = Z' ∧ A' = [olp b 1 (.slice (some ⟨b, 0, none⟩) n cp) n (nums l)] ∧ cpt (l.take j) = l.take j ∧ Kp L [(0, .slice (some ⟨b, 0, none⟩) n cp), (3, .int .i64 j)]) (n - 1) ⟨1, by omega, by omega, rfl, rfl, rfl, cpt_one l, (by repeat (first | exact trivial | refine And.intro rfl ?_ | refine And.intro (kpI rfl (by omega)) ?_))⟩ ?_
  rintro mm L Z' A' - ⟨j, hj1, hj, rfl, rfl, rfl, hcp, hk⟩
  refine Wk.kp hk ?_
  clear hk
  repeat first|refine go ?_|with_reducible intro _
  refine Wk.cond rfl (fun hc => ?_) (fun hc => ?_)
  · have hlt : j < n := by simp at hc; omega
    clear hc
    have hst := cpt_take (l := l) hj1 (by omega)
    repeat first|refine go ?_|with_reducible intro _
    refine Wk.drawr (ms := [0, 0, 3, 7, 0, 0, 32, 112, 240, 511]) (l := [0, 1, 2, 3, 4, 5, 6, 7, 8, 9]) (by kernel_rfl) (by kernel_rfl) (by kernel_rfl) rfl ?_
    repeat first|refine go ?_|with_reducible intro _
    refine Wk.iaV j rfl rfl rfl rfl rfl rfl rfl hlt ?_
    refine Wk.loadOlp (cs := [_]) rfl rfl (by repeat (first | exact Rem.head | apply Rem.tail)) (nums_get (i := j) (by omega) (by omega)) rfl rfl rfl ?_
    repeat first|refine go ?_|with_reducible intro _
    refine Wk.iaV (j - 1) rfl rfl rfl rfl rfl rfl (by omega) (by omega) ?_
    refine Wk.loadOlp (cs := [_]) rfl rfl (by repeat (first | exact Rem.head | apply Rem.tail)) (nums_get (i := j - 1) (by omega) (by omega)) rfl rfl rfl ?_
    repeat first|refine go ?_|with_reducible intro _
    refine Wk.cond rfl (fun hc => ?_) (fun hc => ?_)
    · have heq : l[j - 1] = l[j] := by have : l[j] = l[j - 1] := by simpa using hc
                                       exact this.symm
      clear hc
      rw [if_pos heq, hcp] at hst
      repeat first|refine go ?_|with_reducible intro _
      refine Wk.v (v := .slice (some ⟨b, 0 + j * 1, none⟩) (n - j) (cp - j)) rfl rfl rfl (Rd.sliceOlp (l := j) (h := n) (m := cp) (by repeat (first | exact Rem.head | apply Rem.tail)) rfl rfl rfl rfl rfl rfl rfl rfl rfl (abounds_lo hj hcap)) ?_
      repeat first|refine go ?_|with_reducible intro _
      refine Wk.loop (fun mm L Z' A' => ∃ (k i : Nat) (a : List Int), 1 ≤ k ∧ k ≤ n - j ∧ mm = n - j - k ∧ Z = Z' ∧ A' = [olp b 1 (.slice (some ⟨b, 0, none⟩) n cp) n (nums a)] ∧ a.length = n ∧ i + 1 ≤ j + k ∧ (∀ x, j + k ≤ x + 1 → a[x]? = l[x]?) ∧ a.take i = cpt (l.take (j + k)) ∧ Kp L [(0, .slice (some ⟨b, 0, none⟩) n cp), (3, .int .i64 i), (4, .slice (some ⟨b, 0 + j * 1, none⟩) (n - j) (cp - j)), (5, .int .i64 k)]) (n - j - 1) ⟨1, j, l, by omega, by omega, rfl, rfl, rfl, hn, by omega, fun _ _ => rfl, hst.symm, (by repeat (first | exact trivial | refine And.intro rfl ?_ | refine And.intro (kpI rfl (by omega)) ?_))⟩ ?_
      rintro mm L Z' A' - ⟨k, i, a, hk1, hk2, rfl, rfl, rfl, hal, hi, hax, hat, hk⟩
      refine Wk.kp hk ?_
      clear hk
      repeat first|refine go ?_|with_reducible intro _
      refine Wk.cond rfl (fun hc => ?_) (fun hc => ?_)
      · have hkt : k < n - j := by simp at hc; omega
        clear hc
        have e1 : a[j + k]? = l[j + k]? := hax _ (by omega)
        have e2 : a[j + k - 1]? = l[j + k - 1]? := hax _ (by omega)
        rw [List.getElem?_eq_getElem (by omega), List.getElem?_eq_getElem (by omega)] at e1 e2
        have hst2 := cpt_take (l := l) (m := j + k) (by omega) (by omega)
        rw [← Option.some.inj e1, ← Option.some.inj e2] at hst2
        repeat first|refine go ?_|with_reducible intro _
        refine Wk.drawr (ms := [0, 0, 3, 7, 0, 0, 32, 112, 240, 511]) (l := [0, 1, 2, 3, 4, 5, 6, 7, 8, 9]) (by kernel_rfl) (by kernel_rfl) (by kernel_rfl) rfl ?_
        repeat first|refine go ?_|with_reducible intro _
        refine Wk.iaV k rfl rfl rfl rfl rfl rfl rfl hkt ?_
        refine Wk.loadOlp (cs := [_]) rfl rfl (by repeat (first | exact Rem.head | apply Rem.tail)) (nums_get (i := j + k) (by omega) (by omega)) rfl rfl rfl ?_
        repeat first|refine go ?_|with_reducible intro _
        refine Wk.iaV (k - 1) rfl rfl rfl rfl rfl rfl (by omega) (by omega) ?_
        refine Wk.loadOlp (cs := [_]) rfl rfl (by repeat (first | exact Rem.head | apply Rem.tail)) (nums_get (i := j + k - 1) (by omega) (by omega)) rfl rfl rfl ?_
        repeat first|refine go ?_|with_reducible intro _
        refine Wk.cond rfl (fun hc => ?_) (fun hc => ?_)
        · have hne : ¬ a[j + k - 1] = a[j + k] := fun h => by simp [h] at hc
          clear hc
          rw [if_neg hne] at hst2
          repeat first|refine go ?_|with_reducible intro _
          refine Wk.iaV k rfl rfl rfl rfl rfl rfl rfl hkt ?_
          refine Wk.loadOlp (cs := [_]) rfl rfl (by repeat (first | exact Rem.head | apply Rem.tail)) (nums_get (i := j + k) (by omega) (by omega)) rfl rfl rfl ?_
          repeat first|refine go ?_|with_reducible intro _
          refine Wk.iaV i rfl rfl rfl rfl rfl rfl rfl (by omega) ?_
          refine Wk.storeOlp rfl rfl rfl rfl rfl (by repeat (first | exact Rem.head | apply Rem.tail)) (nums_set (i := i) (by omega) (by omega)) (by kernel_rfl) rfl ?_
          repeat first|refine go ?_|with_reducible intro _
          refine Wk.inv ⟨_, by omega, k + 1, i + 1, _, by omega, by omega, rfl, rfl, rfl, by simpa using hal, by omega, fun x hx => ?_, ?_, (by repeat (first | exact trivial | refine And.intro rfl ?_ | refine And.intro (kpI rfl (by omega)) ?_))⟩
          · rw [List.getElem?_set_ne (by omega)]; exact hax x (by omega)
          · rw [show j + (k + 1) = j + k + 1 by omega, hst2, ← hat, List.take_succ_eq_append_getElem (by simp; omega), List.take_set, List.set_eq_of_length_le (by simp; omega)]
            simp
        · have heq2 : a[j + k - 1] = a[j + k] := by have h : a[j + k] = a[j + k - 1] := by simpa using hc
                                                    exact h.symm
          clear hc
          rw [if_pos heq2] at hst2
          repeat first|refine go ?_|with_reducible intro _
          refine Wk.inv ⟨_, by omega, k + 1, i, a, by omega, by omega, rfl, rfl, rfl, hal, by omega, fun x hx => hax x (by omega), by rw [hat, ← hst2]; rfl, (by repeat (first | exact trivial | refine And.intro rfl ?_ | refine And.intro (kpI rfl (by omega)) ?_))⟩
      · have hkn : k = n - j := by simp at hc; omega
        clear hc
        have hfin : a.take i = cpt l := by rw [hat, List.take_of_length_le (by omega)]
        have hil : (cpt l).length = i := by rw [← hfin, List.length_take]; omega
        repeat first|refine go ?_|with_reducible intro _
        refine Wk.v (v := .slice (some ⟨b, 0 + i * 1, none⟩) (n - i) (cp - i)) rfl rfl rfl (Rd.sliceOlp (l := i) (h := n) (m := cp) (by repeat (first | exact Rem.head | apply Rem.tail)) rfl rfl rfl rfl rfl rfl rfl rfl rfl (abounds_lo (by omega) hcap)) ?_
        repeat first|refine go ?_|with_reducible intro _
        refine Wk.e0 rfl rfl (Ef.clearOlp rfl rfl rfl rfl rfl (by repeat (first | exact Rem.head | apply Rem.tail)) rfl (nums_clear (k := i) (by omega) (by omega)) ⟨PnAll.nil, ?_⟩)
        repeat first|refine go ?_|with_reducible intro _
        refine Wk.v (v := .slice (some ⟨b, 0 + 0 * 1, none⟩) (i - 0) (cp - 0)) rfl rfl rfl (Rd.sliceOlp (l := 0) (h := i) (m := cp) (by repeat (first | exact Rem.head | apply Rem.tail)) rfl rfl rfl rfl rfl rfl rfl rfl rfl (abounds_hi (by omega) hcap)) ?_
        repeat first|refine go ?_|with_reducible intro _
        refine Wk.alter (C := [ol 1 (.slice (some ⟨b, 0, none⟩) i cp) i ((nums (a.take i ++ List.replicate (n - i) 0)).take (i * 1))]) (by repeat (first | exact Rem.head | apply Rem.tail)) (fun s h => Sat.one (olp.short (by omega) h)) ?_
        refine Wk.ret ⟨_, Rs.tmp rfl Rs.nil, _, Sub.refl _, rfl, ?_⟩
        have e3 : (nums (a.take i ++ List.replicate (n - i) 0)).take (i * 1) = nums (cpt l) := by
          rw [Nat.mul_one, ← hfin, nums_append, List.take_append_of_le_length (by simp; omega), List.take_of_length_le (by simp; omega)]
        rw [e3, hil]
        simp [outOf]
    · have hne : ¬ l[j - 1] = l[j] := fun h => by simp [h] at hc
      clear hc
      rw [if_neg hne, hcp] at hst
      repeat first|refine go ?_|with_reducible intro _
      refine Wk.inv ⟨_, by omega, j + 1, by omega, by omega, rfl, rfl, rfl, by rw [hst, List.take_succ_eq_append_getElem (by omega)], (by repeat (first | exact trivial | refine And.intro rfl ?_ | refine And.intro (kpI rfl (by omega)) ?_))⟩
  · have hjn : j = n := by simp at hc; omega
    subst hjn
    rw [List.take_of_length_le (by omega)] at hcp
    repeat first|refine go ?_|with_reducible intro _
    refine Wk.alter (C := [ol 1 (.slice (some ⟨b, 0, none⟩) j cp) j (nums l)]) (by repeat (first | exact Rem.head | apply Rem.tail)) (fun s h => Sat.one (olp.ol h)) ?_
    refine Wk.ret ⟨_, Rs.tmp rfl Rs.nil, _, Sub.refl _, rfl, ?_⟩
    rw [hcp, hn]
    simp [outOf]
end Go.Proofs.J
namespace Go.Proofs.J
open Go.Ev Go
def DqR (Z:Zone) (cs:List Value) (d:Dq):Prop:=∃ vo vt,cs=[.int .i64 d.size,.int .i64 d.room,.bool d.fence,vo,vt]∧Sl Z 2 vo d.owner.length (d.owner.flatMap actC)∧Sl Z 1 vt d.thieves.length (nums d.thieves)
theorem DqR.mono {Z Z':Zone} {cs:List Value} {d:Dq} (e:Ext Z Z') (h:DqR Z cs d):DqR Z' cs d:=let ⟨a,b,h1,h2,h3⟩:=h;⟨a,b,h1,h2.mono e,h3.mono e⟩
theorem DqR.form {Z:Zone} {cs:List Value} {d:Dq} (h:DqR Z cs d):∃ a b c e,cs=[.int .i64 d.size,.int .i64 d.room,.bool d.fence,.slice a d.owner.length b,.slice c d.thieves.length e]∧Sl Z 2 (.slice a d.owner.length b) d.owner.length (d.owner.flatMap actC)∧Sl Z 1 (.slice c d.thieves.length e) d.thieves.length (nums d.thieves):=by
 obtain ⟨vo,vt,rfl,h1,h2⟩:=h
 obtain ⟨a,b,rfl⟩:=h1.form
 obtain ⟨c,e,rfl⟩:=h2.form
 exact ⟨a,b,c,e,rfl,h1,h2⟩
theorem copyDq {Z:Zone} {cs:List Value} {d:Dq} (h:DqR Z cs d) (ho:d.owner.length≤1000) (ht:d.thieves.length≤1000) :
  Cz M (.func (.func 16) #[] #[]) [.agg ⟨cs⟩] Z [] (fun v' Z' A'=>(∃ cs',v'=.agg ⟨cs'⟩∧DqR Z' cs' d)∧A'=[]):=by
 obtain ⟨a,b,c,e,rfl,so,st⟩:=h.form
 refine Cz.fn (f:=Tryz.f16) Ev.cM rfl rfl rfl _ rfl ?_
 repeat first|refine go ?_|with_reducible intro _
 rename_i b1 b2
 refine Wk.drawr (ms:=[0,0,2,7,0,0,32,127,111,511,1023,2047]) (l:=[0,1,2,4,5,6,3,8,7,9,10,11]) Ev.cM Ev.cM Ev.cM rfl ?_
 repeat first|refine go ?_|with_reducible intro _
 refine Wk.bs rfl rfl rfl rfl rfl rfl rfl fun b9=>?_
 repeat first|refine go ?_|with_reducible intro _
 refine Wk.bs rfl rfl rfl rfl rfl rfl rfl fun b10=>?_
 repeat first|refine go ?_|with_reducible intro _
 refine Wk.alterr (x:=pt b9 _) (C:=[ol 2 (.slice (some ⟨b9,0,none⟩) 0 0) 0 []]) Ev.rM (fun s h=>ol_of_pt (m:=0) (vs:=[]) (g:=0) rfl (.inl rfl) rfl h) ?_
 refine Wk.appendD rfl rfl rfl rfl rfl rfl rfl rfl Rem.head (Src.sl so) rfl (actL_ok _) (fm_len (f:=actC) (k:=2) (fun _=>rfl) _) Ev.wM Ev.wM rfl rfl fun v12=>⟨?_,?_⟩
 ·exact Ev.pM0
 first|apply Wk.olFreezer (v:=v12)|apply Wk.olFreeze (v:=v12)
 case p=>repeat (first|exact Rem.head|apply Rem.tail)
 intro Z1 e1 h12
 obtain ⟨a12,c12,rfl⟩:=h12.form
 simp only [List.nil_append,Nat.zero_add] at h12
 have st1:=st.mono e1
 repeat first|refine go ?_|with_reducible intro _
 refine Wk.alterr (x:=pt b10 _) (C:=[ol 1 (.slice (some ⟨b10,0,none⟩) 0 0) 0 []]) Ev.rM (fun s h=>ol_of_pt (m:=0) (vs:=[]) (g:=0) rfl (.inl rfl) rfl h) ?_
 refine Wk.appendD rfl rfl rfl rfl rfl rfl rfl rfl Rem.head (Src.sl st1) rfl (ok_nums _) (by simp) Ev.wM Ev.wM rfl rfl fun v13=>⟨?_,?_⟩
 ·exact Ev.pM0
 first|apply Wk.olFreezer (v:=v13)|apply Wk.olFreeze (v:=v13)
 case p=>repeat (first|exact Rem.head|apply Rem.tail)
 intro Z2 e2 h13
 obtain ⟨a13,c13,rfl⟩:=h13.form
 simp only [List.nil_append,Nat.zero_add] at h13
 repeat first|refine go ?_|with_reducible intro _
 refine Wk.store rfl rfl rfl rfl rfl Ev.uM rfl Ev.cM rfl ?_
 repeat first|refine go ?_|with_reducible intro _
 refine Wk.ret ⟨_,Rs.cell rfl rfl Ev.hM rfl rfl Rs.nil,_,Sub.none _,⟨_,rfl,_,_,rfl,by simpa using h12.mono e2,by simpa using h13⟩,rfl⟩
theorem rIn {Z:Zone} {n a b:Int}:Cz M (.func (.func 52) #[] #[]) [.int .i64 n,.int .i64 a,.int .i64 b] Z [] (fun v' Z' A'=>Bis v' (a≤n∧n≤b)∧Z=Z'∧A'=[]):=by
 refine Cz.fn (f:=Tryz.f52) Ev.cM rfl rfl rfl _ rfl ?_
 repeat first|refine go ?_|with_reducible intro _
 refine Wk.caser 10 rfl (fun h1=>?_) (fun h1=>?_)
 ·repeat first|refine go ?_|with_reducible intro _
  refine Wk.ret ⟨_,Rs.tmp rfl Rs.nil,_,Sub.none _,Bis.of (by simp at h1 ⊢;omega),rfl,rfl⟩
 ·repeat first|refine go ?_|with_reducible intro _
  refine Wk.ret ⟨_,Rs.tmp rfl Rs.nil,_,Sub.none _,Bis.of (by simp at h1 ⊢;omega),rfl,rfl⟩
theorem within_ {Z:Zone} {n a b:Int}:Cz M (.func (.func 48) #[] #[]) [.int .i64 a,.int .i64 b,.int .i64 n] Z [] (fun v' Z' A'=>Bis v' (a≤n∧n≤b)∧Z=Z'∧A'=[]):=by
 refine Cz.fn (f:=Tryz.f48) Ev.cM rfl rfl rfl _ rfl ?_
 repeat first|refine go ?_|with_reducible intro _
 refine Wk.caser 10 rfl (fun h1=>?_) (fun h1=>?_)
 ·repeat first|refine go ?_|with_reducible intro _
  refine Wk.ret ⟨_,Rs.tmp rfl Rs.nil,_,Sub.none _,Bis.of (by simp at h1 ⊢;omega),rfl,rfl⟩
 ·repeat first|refine go ?_|with_reducible intro _
  refine Wk.ret ⟨_,Rs.tmp rfl Rs.nil,_,Sub.none _,Bis.of (by simp at h1 ⊢;omega),rfl,rfl⟩
theorem isItem_ {Z:Zone} {n:Int}:Cz M (.func (.func 89) #[] #[]) [.int .i64 n] Z [] (fun v' Z' A'=>Bis v' (Item n)∧Z=Z'∧A'=[]):=by
 refine Cz.fn (f:=Tryz.f89) Ev.cM rfl rfl rfl _ rfl ?_
 repeat first|refine go ?_|with_reducible intro _
 refine Wk.call rfl rfl (Spl.none _) (within_) rfl rfl rfl ?_
 rintro v' Z' A' hz ⟨⟨b,rfl,hb⟩,rfl,rfl⟩
 repeat first|refine go ?_|with_reducible intro _
 refine Wk.ret ⟨_,Rs.tmp rfl Rs.nil,_,Sub.none _,Bis.of hb,rfl,rfl⟩
theorem chk1_ {Z:Zone} {n:Int}:Cz M (.func (.func 88) #[] #[]) [.int .i64 n] Z [] (fun v' Z' A'=>Bis v' (¬ Item n)∧Z=Z'∧A'=[]):=by
 refine Cz.fn (f:=Tryz.f88) Ev.cM rfl rfl rfl _ rfl ?_
 repeat first|refine go ?_|with_reducible intro _
 refine Wk.call rfl rfl (Spl.none _) (isItem_) rfl rfl rfl ?_
 rintro v' Z' A' hz ⟨⟨b,rfl,hb⟩,rfl,rfl⟩
 repeat first|refine go ?_|with_reducible intro _
 refine Wk.ret ⟨_,Rs.tmp rfl Rs.nil,_,Sub.none _,Bis.of (by rw [←hb];simp),rfl,rfl⟩
theorem chk2_ {Z:Zone} {n:Int}:Cz M (.func (.func 91) #[] #[]) [.int .i64 n] Z [] (fun v' Z' A'=>Bis v' (4 < n)∧Z=Z'∧A'=[]):=by
 refine Cz.fn (f:=Tryz.f91) Ev.cM rfl rfl rfl _ rfl ?_
 repeat first|refine go ?_|with_reducible intro _
 refine Wk.ret ⟨_,Rs.tmp rfl Rs.nil,_,Sub.none _,Bis.of (by simp),rfl,rfl⟩
theorem chk3_ {Z:Zone} {n:Int}:Cz M (.func (.func 92) #[] #[]) [.int .i64 n] Z [] (fun v' Z' A'=>Bis v' (n < 0)∧Z=Z'∧A'=[]):=by
 refine Cz.fn (f:=Tryz.f92) Ev.cM rfl rfl rfl _ rfl ?_
 repeat first|refine go ?_|with_reducible intro _
 refine Wk.ret ⟨_,Rs.tmp rfl Rs.nil,_,Sub.none _,Bis.of (by simp),rfl,rfl⟩
theorem chk4_ {Z:Zone} {a:Act}:Cz M (.func (.func 94) #[] #[]) [.agg ⟨actC a⟩] Z [] (fun v' Z' A'=>Bis v' (¬ (a.push=true∨a.n=0))∧Z=Z'∧A'=[]):=by
 refine Cz.fn (f:=Tryz.f94) Ev.cM rfl rfl rfl _ rfl ?_
 repeat first|refine go ?_|with_reducible intro _
 refine Wk.caser 6 rfl (fun h1=>?_) (fun h1=>?_)
 ·repeat first|refine go ?_|with_reducible intro _
  refine Wk.ret ⟨_,Rs.tmp rfl Rs.nil,_,Sub.none _,Bis.of (by simp at h1 ⊢;simp [h1]),rfl,rfl⟩
 ·repeat first|refine go ?_|with_reducible intro _
  refine Wk.ret ⟨_,Rs.tmp rfl Rs.nil,_,Sub.none _,Bis.of (by simp at h1 ⊢;simp [h1]),rfl,rfl⟩
end Go.Proofs.J
namespace Go.Proofs.J
open Go.Ev Go
theorem indexSl {Z:Zone} {v fv:Value} {l:List Int} (p:Int→Prop) (s:Sl Z 1 v l.length (nums l)) (hs:l.length≤1000000)
  (hp:∀ x∈l,Cz M fv [.int .i64 x] Z [] (fun v' Z' A'=>Bis v' (p x)∧Z=Z'∧A'=[])) :
  Cz M (.func (.func 131) #[] #[]) [v,fv] Z [] (fun v' Z' A'=>(∃ r:Int,v'=.int .i64 r∧(0≤r↔∃ x∈l,p x))∧Z=Z'∧A'=[]):=by
 obtain ⟨q,c,rfl⟩:=s.form
 refine Cz.fn (f:=Tryz.f131) Ev.cM rfl rfl rfl _ rfl ?_
 repeat first|refine go ?_|with_reducible intro _
 refine Wk.loop (fun mm L Z' A'=>∃ j:Nat,j≤l.length∧mm=l.length - j∧Z=Z'∧Sub A' []∧(∀ i (h:i < l.length),i < j→¬ p l[i])∧Kp L [(0,.slice q l.length c),(1,fv),(6,.slice q l.length c),(7,.int .i64 l.length),(8,.int .i64 j)]) (l.length) ⟨0,Nat.zero_le _,rfl,rfl,Ev.sM,fun i h hi=>by omega,Ev.kM⟩ ?_
 rintro mm L Z' A' - ⟨j,hjj,rfl,rfl,hsub,invj,hk⟩
 refine Wk.drop hsub ?_
 refine Wk.kp hk ?_
 clear hk hsub
 repeat first|refine go ?_|with_reducible intro _
 refine Wk.cond rfl (fun hc=>?_) (fun hc=>?_)
 ·have hlt:j < l.length:=by simp at hc;omega
  clear hc
  repeat first|refine go ?_|with_reducible intro _
  refine Wk.call rfl rfl (Spl.none _) (hp l[j] (List.getElem_mem _)) rfl rfl rfl ?_
  rintro v' Z' A' hz ⟨⟨r,rfl,hr⟩,rfl,rfl⟩
  repeat first|refine go ?_|with_reducible intro _
  refine Wk.cond rfl (fun hc=>?_) (fun hc=>?_)
  ·repeat first|refine go ?_|with_reducible intro _
   refine Wk.ret ⟨_,Rs.tmp rfl Rs.nil,_,Sub.none _,⟨_,rfl,⟨fun _=>⟨_,List.getElem_mem _,hr.1 hc⟩,fun _=>by omega⟩⟩,rfl,rfl⟩
  ·have hnp:¬ p l[j]:=fun h=>by rw [hr.2 h] at hc;cases hc
   clear hc
   repeat first|refine go ?_|with_reducible intro _
   refine Wk.inv ⟨_,by omega,j+1,by omega,rfl,rfl,Ev.sM,fun i h hi=>?_,Ev.kM⟩
   by_cases e:i=j
   ·subst e;exact hnp
   ·exact invj i h Ev.wM
 ·repeat first|refine go ?_|with_reducible intro _
  refine Wk.ret ⟨_,Rs.tmp rfl Rs.nil,_,Sub.none _,⟨_,rfl,⟨fun h=>absurd h (by decide),fun ⟨x,hx,hpx⟩=>by obtain ⟨i,hi,rfl⟩:=List.getElem_of_mem hx;exact absurd hpx (invj i hi (by simp at hc;omega))⟩⟩,rfl,rfl⟩
theorem indexOwn {Z:Zone} {b n cp:Nat} {l:List Int} {fv:Value} (p:Int→Prop) (hn:l.length=n) (hs:n≤1000000)
  (hp:∀ x∈l,Cz M fv [.int .i64 x] Z [] (fun v' Z' A'=>Bis v' (p x)∧Z=Z'∧A'=[])) :
  Cz M (.func (.func 131) #[] #[]) [.slice (some ⟨b,0,none⟩) n cp,fv] Z [olp b 1 (.slice (some ⟨b,0,none⟩) n cp) n (nums l)] (fun v' Z' A'=>(∃ r:Int,v'=.int .i64 r∧(0≤r↔∃ x∈l,p x))∧Z=Z'∧A'=[olp b 1 (.slice (some ⟨b,0,none⟩) n cp) n (nums l)]):=by
 refine Cz.fn (f:=Tryz.f131) Ev.cM rfl rfl rfl _ rfl ?_
 repeat first|refine go ?_|with_reducible intro _
 refine Wk.loop (fun mm L Z' A'=>∃ j:Nat,j≤n∧mm=n - j∧Z=Z'∧A'=[olp b 1 (.slice (some ⟨b,0,none⟩) n cp) n (nums l)]∧(∀ i (h:i < l.length),i < j→¬ p l[i])∧Kp L [(0,.slice (some ⟨b,0,none⟩) n cp),(1,fv),(6,.slice (some ⟨b,0,none⟩) n cp),(7,.int .i64 n),(8,.int .i64 j)]) n ⟨0,Nat.zero_le _,rfl,rfl,rfl,fun _ _ h=>by omega,Ev.kM⟩ ?_
 rintro mm L Z' A' - ⟨j,hj,rfl,rfl,rfl,hno,hk⟩
 refine Wk.kp hk ?_
 clear hk
 repeat first|refine go ?_|with_reducible intro _
 refine Wk.cond rfl (fun hc=>?_) (fun hc=>?_)
 ·have hlt:j < n:=by simp at hc;omega
  clear hc
  repeat first|refine go ?_|with_reducible intro _
  refine Wk.iaV j rfl rfl rfl rfl rfl rfl rfl hlt ?_
  refine Wk.loadOlp (cs:=[_]) rfl rfl Ev.rM (nums_get (i:=j) Ev.wM Ev.wM) rfl rfl rfl ?_
  repeat first|refine go ?_|with_reducible intro _
  refine Wk.call rfl rfl (Spl.none _) (hp l[j] (List.getElem_mem _)) rfl rfl rfl ?_
  rintro v' Z' A' hz ⟨⟨r,rfl,hr⟩,rfl,rfl⟩
  repeat first|refine go ?_|with_reducible intro _
  refine Wk.cond rfl (fun hc=>?_) (fun hc=>?_)
  ·repeat first|refine go ?_|with_reducible intro _
   refine Wk.ret ⟨_,Rs.tmp rfl Rs.nil,_,Sub.refl _,⟨_,rfl,⟨fun _=>⟨_,List.getElem_mem _,hr.1 hc⟩,fun _=>by omega⟩⟩,rfl,rfl⟩
  ·have hnp:¬ p l[j]:=fun h=>by rw [hr.2 h] at hc;cases hc
   clear hc
   repeat first|refine go ?_|with_reducible intro _
   refine Wk.inv ⟨_,by omega,j+1,hlt,rfl,rfl,rfl,fun i h hi=>?_,Ev.kM⟩
   by_cases e:i=j
   ·subst e;exact hnp
   ·exact hno i h Ev.wM
 ·have hjn:j=n:=by simp at hc;omega
  repeat first|refine go ?_|with_reducible intro _
  refine Wk.ret ⟨_,Rs.tmp rfl Rs.nil,_,Sub.refl _,⟨_,rfl,⟨fun h=>absurd h (by decide),fun ⟨x,hx,hpx⟩=>by obtain ⟨i,hi,rfl⟩:=List.getElem_of_mem hx;exact absurd hpx (hno i hi Ev.wM)⟩⟩,rfl,rfl⟩
theorem anySl {Z:Zone} {v fv:Value} {l:List Int} (p:Int→Prop) (s:Sl Z 1 v l.length (nums l)) (hs:l.length≤1000000)
  (hp:∀ x∈l,Cz M fv [.int .i64 x] Z [] (fun v' Z' A'=>Bis v' (p x)∧Z=Z'∧A'=[])) :
  Cz M (.func (.func 90) #[] #[]) [v,fv] Z [] (fun v' Z' A'=>Bis v' (∃ x∈l,p x)∧Z=Z'∧A'=[]):=by
 refine Cz.fn (f:=Tryz.f90) Ev.cM rfl rfl rfl _ rfl ?_
 repeat first|refine go ?_|with_reducible intro _
 refine Wk.call rfl rfl (Spl.none _) (Q1:=fun v' Z' A'=>Bis v' (∃ x∈l,p x)∧Z=Z'∧A'=[]) ?_ rfl rfl rfl ?_
 ·refine Cz.fn (f:=Tryz.f112) Ev.cM rfl rfl rfl _ rfl ?_
  repeat first|refine go ?_|with_reducible intro _
  refine Wk.call rfl rfl (Spl.none _) (indexSl p s hs hp) rfl rfl rfl ?_
  rintro v' Z' A' hz ⟨⟨r,rfl,hr⟩,rfl,rfl⟩
  repeat first|refine go ?_|with_reducible intro _
  refine Wk.ret ⟨_,Rs.tmp rfl Rs.nil,_,Sub.none _,Bis.of (by rw [←hr];simp),rfl,rfl⟩
 rintro v' Z' A' hz ⟨⟨r,rfl,hr⟩,rfl,rfl⟩
 repeat first|refine go ?_|with_reducible intro _
 refine Wk.ret ⟨_,Rs.tmp rfl Rs.nil,_,Sub.none _,Bis.of hr,rfl,rfl⟩
theorem anyOwn {Z:Zone} {b n cp:Nat} {l:List Int} {fv:Value} (p:Int→Prop) (hn:l.length=n) (hs:n≤1000000)
  (hp:∀ x∈l,Cz M fv [.int .i64 x] Z [] (fun v' Z' A'=>Bis v' (p x)∧Z=Z'∧A'=[])) :
  Cz M (.func (.func 90) #[] #[]) [.slice (some ⟨b,0,none⟩) n cp,fv] Z [olp b 1 (.slice (some ⟨b,0,none⟩) n cp) n (nums l)] (fun v' Z' A'=>Bis v' (∃ x∈l,p x)∧Z=Z'∧A'=[olp b 1 (.slice (some ⟨b,0,none⟩) n cp) n (nums l)]):=by
 refine Cz.fn (f:=Tryz.f90) Ev.cM rfl rfl rfl _ rfl ?_
 repeat first|refine go ?_|with_reducible intro _
 refine Wk.call rfl rfl (.l .nil) (Q1:=fun v' Z' A'=>Bis v' (∃ x∈l,p x)∧Z=Z'∧A'=[olp b 1 (.slice (some ⟨b,0,none⟩) n cp) n (nums l)]) ?_ rfl rfl rfl ?_
 ·refine Cz.fn (f:=Tryz.f112) Ev.cM rfl rfl rfl _ rfl ?_
  repeat first|refine go ?_|with_reducible intro _
  refine Wk.call rfl rfl (.l .nil) (indexOwn p hn hs hp) rfl rfl rfl ?_
  rintro v' Z' A' hz ⟨⟨r,rfl,hr⟩,rfl,rfl⟩
  repeat first|refine go ?_|with_reducible intro _
  refine Wk.ret ⟨_,Rs.tmp rfl Rs.nil,_,Sub.refl _,Bis.of (by rw [←hr];simp),rfl,rfl⟩
 rintro v' Z' A' hz ⟨⟨r,rfl,hr⟩,rfl,rfl⟩
 repeat first|refine go ?_|with_reducible intro _
 refine Wk.ret ⟨_,Rs.tmp rfl Rs.nil,_,Sub.refl _,Bis.of hr,rfl,rfl⟩
theorem indexAct {Z:Zone} {v fv:Value} {l:List Act} (p:Act→Prop) (s:Sl Z 2 v l.length (l.flatMap actC)) (hs:l.length≤1000000)
  (hp:∀ x∈l,Cz M fv [.agg ⟨actC x⟩] Z [] (fun v' Z' A'=>Bis v' (p x)∧Z=Z'∧A'=[])) :
  Cz M (.func (.func 196) #[] #[]) [v,fv] Z [] (fun v' Z' A'=>(∃ r:Int,v'=.int .i64 r∧(0≤r↔∃ x∈l,p x))∧Z=Z'∧A'=[]):=by
 obtain ⟨q,c,rfl⟩:=s.form
 refine Cz.fn (f:=Tryz.f196) Ev.cM rfl rfl rfl _ rfl ?_
 repeat first|refine go ?_|with_reducible intro _
 refine Wk.loop (fun mm L Z' A'=>∃ j:Nat,j≤l.length∧mm=l.length - j∧Z=Z'∧Sub A' []∧(∀ i (h:i < l.length),i < j→¬ p l[i])∧Kp L [(0,.slice q l.length c),(1,fv),(6,.slice q l.length c),(7,.int .i64 l.length),(8,.int .i64 j)]) (l.length) ⟨0,Nat.zero_le _,rfl,rfl,Ev.sM,fun i h hi=>by omega,Ev.kM⟩ ?_
 rintro mm L Z' A' - ⟨j,hjj,rfl,rfl,hsub,invj,hk⟩
 refine Wk.drop hsub ?_
 refine Wk.kp hk ?_
 clear hk hsub
 repeat first|refine go ?_|with_reducible intro _
 refine Wk.cond rfl (fun hc=>?_) (fun hc=>?_)
 ·have hlt:j < l.length:=by simp at hc;omega
  clear hc
  have e2:=actL_get hlt
  repeat first|refine go ?_|with_reducible intro _
  refine Wk.call rfl rfl (Spl.none _) (hp l[j] (List.getElem_mem _)) rfl rfl rfl ?_
  rintro v' Z' A' hz ⟨⟨r,rfl,hr⟩,rfl,rfl⟩
  repeat first|refine go ?_|with_reducible intro _
  refine Wk.cond rfl (fun hc=>?_) (fun hc=>?_)
  ·repeat first|refine go ?_|with_reducible intro _
   refine Wk.ret ⟨_,Rs.tmp rfl Rs.nil,_,Sub.none _,⟨_,rfl,⟨fun _=>⟨_,List.getElem_mem _,hr.1 hc⟩,fun _=>by omega⟩⟩,rfl,rfl⟩
  ·have hnp:¬ p l[j]:=fun h=>by rw [hr.2 h] at hc;cases hc
   clear hc
   repeat first|refine go ?_|with_reducible intro _
   refine Wk.inv ⟨_,by omega,j+1,by omega,rfl,rfl,Ev.sM,fun i h hi=>?_,Ev.kM⟩
   by_cases e:i=j
   ·subst e;exact hnp
   ·exact invj i h Ev.wM
 ·repeat first|refine go ?_|with_reducible intro _
  refine Wk.ret ⟨_,Rs.tmp rfl Rs.nil,_,Sub.none _,⟨_,rfl,⟨fun h=>absurd h (by decide),fun ⟨x,hx,hpx⟩=>by obtain ⟨i,hi,rfl⟩:=List.getElem_of_mem hx;exact absurd hpx (invj i hi (by simp at hc;omega))⟩⟩,rfl,rfl⟩
theorem anyAct {Z:Zone} {v fv:Value} {l:List Act} (p:Act→Prop) (s:Sl Z 2 v l.length (l.flatMap actC)) (hs:l.length≤1000000)
  (hp:∀ x∈l,Cz M fv [.agg ⟨actC x⟩] Z [] (fun v' Z' A'=>Bis v' (p x)∧Z=Z'∧A'=[])) :
  Cz M (.func (.func 93) #[] #[]) [v,fv] Z [] (fun v' Z' A'=>Bis v' (∃ x∈l,p x)∧Z=Z'∧A'=[]):=by
 refine Cz.fn (f:=Tryz.f93) Ev.cM rfl rfl rfl _ rfl ?_
 repeat first|refine go ?_|with_reducible intro _
 refine Wk.call rfl rfl (Spl.none _) (Q1:=fun v' Z' A'=>Bis v' (∃ x∈l,p x)∧Z=Z'∧A'=[]) ?_ rfl rfl rfl ?_
 ·refine Cz.fn (f:=Tryz.f144) Ev.cM rfl rfl rfl _ rfl ?_
  repeat first|refine go ?_|with_reducible intro _
  refine Wk.call rfl rfl (Spl.none _) (indexAct p s hs hp) rfl rfl rfl ?_
  rintro v' Z' A' hz ⟨⟨r,rfl,hr⟩,rfl,rfl⟩
  repeat first|refine go ?_|with_reducible intro _
  refine Wk.ret ⟨_,Rs.tmp rfl Rs.nil,_,Sub.none _,Bis.of (by rw [←hr];simp),rfl,rfl⟩
 rintro v' Z' A' hz ⟨⟨r,rfl,hr⟩,rfl,rfl⟩
 repeat first|refine go ?_|with_reducible intro _
 refine Wk.ret ⟨_,Rs.tmp rfl Rs.nil,_,Sub.none _,Bis.of hr,rfl,rfl⟩
end Go.Proofs.J
namespace Go.Proofs.J
open Go.Ev Go
end Go.Proofs.J
namespace Go.Proofs.J
open Go.Ev Go
end Go.Proofs.J
namespace Go.Proofs.J
open Go.Ev Go
end Go.Proofs.J
namespace Go.Proofs.J
open Go.Ev Go
def Iss (Z:Zone) (v:Value) (ts:List (List Ins)):Prop:=∃ us,Sl Z 1 v ts.length us∧All2 (fun u t=>Sl Z 6 u t.length (insL t)) us ts
theorem Iss.mono {Z Z':Zone} {v:Value} {ts:List (List Ins)} (e:Ext Z Z') (h:Iss Z v ts):Iss Z' v ts:=let ⟨us,h1,h2⟩:=h;⟨us,h1.mono e,h2.mono fun _ _ q=>q.mono e⟩
def WkR (Z:Zone) (cs:List Value) (words:List Int) (ts:List (List Ins)) (room:Int):Prop:=∃ vw vt,cs=[vw,vt,.int .i64 room]∧Sl Z 1 vw words.length (nums words)∧Iss Z vt ts
theorem WkR.mono {Z Z':Zone} {cs:List Value} {w:List Int} {ts:List (List Ins)} {r:Int} (e:Ext Z Z') (h:WkR Z cs w ts r):WkR Z' cs w ts r:=let ⟨a,b,h1,h2,h3⟩:=h;⟨a,b,h1,h2.mono e,h3.mono e⟩
theorem WkR.form {Z:Zone} {cs:List Value} {w:List Int} {ts:List (List Ins)} {r:Int} (h:WkR Z cs w ts r):∃ a b c e us,cs=[.slice a w.length b,.slice c ts.length e,.int .i64 r]∧Sl Z 1 (.slice a w.length b) w.length (nums w)∧Sl Z 1 (.slice c ts.length e) ts.length us∧All2 (fun u t=>Sl Z 6 u t.length (insL t)) us ts:=by
 obtain ⟨vw,vt,rfl,h1,us,h2,h3⟩:=h
 obtain ⟨a,b,rfl⟩:=h1.form
 obtain ⟨c,e,rfl⟩:=h2.form
 exact ⟨a,b,c,e,us,rfl,h1,h2,h3⟩
end Go.Proofs.J
namespace Go.Proofs.J
open Go.Ev Go Go.Sort
theorem Cz.olOpen {fv:Value} {args:List Value} {Z:Zone} {A:List SA} {sz mm:Nat} {v:Value} {vs:List Value} {Q:Value→Zone→List SA→Prop} (hm:0 < mm)
  (c:∀ b cp,v=.slice (some ⟨b,0,none⟩) mm cp→mm≤cp→Cz M fv args Z (olp b sz v mm vs::A) Q):Cz M fv args Z (ol sz v mm vs::A) Q:=by
 intro H φ h3
 obtain ⟨s,t,k1,k2,k3⟩:=h3.rem Rem.head
 rcases k1 with ⟨_,rfl,_⟩|⟨_,_,_,_,_,_,_,_,_,_,rfl,_⟩|⟨b,gg,cp,xs,hx⟩
 ·omega
 ·omega
 ·exact c b cp hx.1 hx.2.1 H φ ⟨s++t,.cons (P:=olp b sz v mm vs) ⟨gg,cp,xs,hx⟩ k2,by rw [List.append_assoc];exact k3⟩
theorem Cz.olForm {fv:Value} {args:List Value} {Z:Zone} {A:List SA} {sz mm:Nat} {v:Value} {vs:List Value} {Q:Value→Zone→List SA→Prop}
  (c:∀ a cp,v=.slice a mm cp→Cz M fv args Z (ol sz v mm vs::A) Q):Cz M fv args Z (ol sz v mm vs::A) Q:=by
 intro H φ h3
 obtain ⟨s,t,k1,k2,k3⟩:=h3.rem Rem.head
 obtain ⟨a,cp,e⟩:=ol.form k1
 exact c a cp e H φ h3
theorem Cz.olShut {fv:Value} {args:List Value} {Z:Zone} {A:List SA} {b sz mm:Nat} {v:Value} {P:Value→Zone→List Value→Prop}
  (h:Cz M fv args Z A (fun v' Z' A'=>∃ vs,P v' Z' vs∧A'=[olp b sz v mm vs])):Cz M fv args Z A (fun v' Z' A'=>∃ vs,P v' Z' vs∧A'=[ol sz v mm vs]):=by
 intro H φ h3
 obtain ⟨n,v',H',Z',A',h1,h2,h3,vs,h4,rfl⟩:=h H φ h3
 refine ⟨n,v',H',Z',_,h1,h2,?_,vs,h4,rfl⟩
 obtain ⟨s,t,k1,k2,k3⟩:=h3.rem Rem.head
 exact ⟨s++t,.cons (P:=ol sz v mm vs) (olp.ol k1) k2,by rw [List.append_assoc];exact k3⟩
theorem insertion0 {Z:Zone} {A:List SA} {v:Value}:Cz M (.func (.func 187) #[] #[]) [v,.int .i64 0,.int .i64 0] Z A (fun v' Z' A'=>Z=Z'∧A'=A):=by
 refine Cz.fn (f:=Tryz.f187) Ev.cM rfl rfl rfl _ rfl ?_
 repeat first|refine go ?_|with_reducible intro _
 refine Wk.loop (fun mm L Z' A'=>Z=Z'∧A'=A∧Kp L [(2,.int .i64 0),(6,.int .i64 1)]) 0 ⟨rfl,rfl,Ev.kM⟩ ?_
 rintro mm L Z' A' - ⟨rfl,rfl,hk⟩
 refine Wk.kp hk ?_
 repeat first|refine go ?_|with_reducible intro _
 refine Wk.done ⟨_,Rs.nil,_,Sub.refl _,rfl,rfl⟩
theorem pdq0 {Z:Zone} {A:List SA} {v:Value}:Cz M (.func (.func 143) #[] #[]) [v,.int .i64 0,.int .i64 0,.int .i64 0] Z A (fun v' Z' A'=>Z=Z'∧A'=A):=by
 refine Cz.fn (f:=Tryz.f143) Ev.cM rfl rfl rfl _ rfl ?_
 repeat first|refine go ?_|with_reducible intro _
 refine Wk.loop (fun mm L Z' A'=>Z=Z'∧A'=A∧Kp L [(0,v),(1,.int .i64 0),(2,.int .i64 0)]) 0 ⟨rfl,rfl,Ev.kM⟩ ?_
 rintro mm L Z' A' - ⟨rfl,rfl,hk⟩
 refine Wk.kp hk ?_
 repeat first|refine go ?_|with_reducible intro _
 refine Wk.call rfl rfl (Spl.none _) (insertion0 (A:=[])) rfl rfl rfl ?_
 rintro v' Z' A' hz ⟨rfl,rfl⟩
 repeat first|refine go ?_|with_reducible intro _
 refine Wk.ret ⟨_,Rs.nil,_,Sub.refl _,rfl,rfl⟩
theorem sort0A {Z:Zone} {A:List SA} {a:Option Addr} {c:Nat}:Cz M (.func (.func 87) #[] #[]) [.slice a 0 c] Z A (fun v' Z' A'=>Z=Z'∧A'=A):=by
 refine Cz.fn (f:=Tryz.f87) Ev.cM rfl rfl rfl _ rfl ?_
 repeat first|refine go ?_|with_reducible intro _
 refine Wk.conv rfl rfl rfl (u64_small (c:=0) Ev.wM Ev.wM) rfl rfl rfl ?_
 repeat first|refine go ?_|with_reducible intro _
 refine Wk.call rfl rfl (Spl.none _) len0 rfl rfl rfl ?_
 rintro v' Z' A' hz ⟨rfl,rfl,rfl⟩
 repeat first|refine go ?_|with_reducible intro _
 refine Wk.call rfl rfl (Spl.none _) (pdq0 (A:=[])) rfl rfl rfl ?_
 rintro v' Z' A' hz ⟨rfl,rfl⟩
 repeat first|refine go ?_|with_reducible intro _
 refine Wk.done ⟨_,Rs.nil,_,Sub.refl _,rfl,rfl⟩
theorem sorted_list {e:Array Int} {n:Nat} (hn:e.size=n) (h:SortedIn ltInt 0 n e):e.toList.Pairwise (·≤·):=by
 rw [List.pairwise_iff_getElem]
 intro i j hi hj hij
 have:=h i j (Nat.zero_le _) hij (by simpa [hn] using hj)
 rw [getElem!_pos e i (by simpa using hi),getElem!_pos e j (by simpa using hj)] at this
 simp [ltInt] at this
 simpa using this
theorem perm_list {d e:Array Int} {n:Nat} (hn:d.size=n) (h:PermIn 0 n d e):e.size=n∧e.toList.Perm d.toList:=by
 obtain ⟨h1,h2,h3⟩:=h
 refine ⟨h1.trans hn,?_⟩
 have e1:e.extract 0 n=e:=by rw [←hn,←h1];exact Array.extract_size
 have e2:d.extract 0 n=d:=by rw [←hn];exact Array.extract_size
 rw [e1,e2] at h3
 exact h3
theorem sortOl {Z:Zone} {v:Value} {l:List Int} (hs:l.length≤1000000) :
  Cz M (.func (.func 87) #[] #[]) [v] Z [ol 1 v l.length (nums l)] (fun v' Z' A'=>∃ vs,(Z=Z'∧∃ e:List Int,vs=nums e∧e.Perm l∧e.Pairwise (·≤·))∧A'=[ol 1 v l.length vs]):=by
 by_cases h0:l=[]
 ·subst h0
  refine Cz.olForm fun a cp e=>?_
  subst e
  refine sort0A.mono ?_
  rintro v' Z' A' hz ⟨rfl,rfl⟩
  exact ⟨_,⟨rfl,[],rfl,.refl _,.nil⟩,rfl⟩
 ·have hp:0 < l.length:=List.length_pos_iff.2 h0
  refine Cz.olOpen hp fun b cp e hcp=>?_
  subst e
  have hic:nums l=ic l.toArray:=by simp [ic]
  rw [hic]
  refine Cz.olShut (b:=b) ((sortInts (n:=l.length) (d:=l.toArray) (by simp) hs).mono ?_)
  rintro v' Z' A' hz ⟨rfl,e,g1,g2,rfl⟩
  obtain ⟨k1,k2⟩:=perm_list (by simp) g1
  exact ⟨_,⟨rfl,e.toList,rfl,by simpa using k2,sorted_list k1 g2⟩,rfl⟩
theorem any0A {Z:Zone} {A:List SA} {a:Option Addr} {c:Nat} {fv:Value}:Cz M (.func (.func 90) #[] #[]) [.slice a 0 c,fv] Z A (fun v' Z' A'=>v'=.bool false∧Z=Z'∧A'=A):=by
 refine Cz.fn (f:=Tryz.f90) Ev.cM rfl rfl rfl _ rfl ?_
 repeat first|refine go ?_|with_reducible intro _
 refine Wk.call rfl rfl (Spl.none _) (Q1:=fun v' Z' A'=>v'=.bool false∧Z=Z'∧A'=[]) ?_ rfl rfl rfl ?_
 ·refine Cz.fn (f:=Tryz.f112) Ev.cM rfl rfl rfl _ rfl ?_
  repeat first|refine go ?_|with_reducible intro _
  refine Wk.call rfl rfl (Spl.none _) (Q1:=fun v' Z' A'=>v'=.int .i64 (-1)∧Z=Z'∧A'=[]) ?_ rfl rfl rfl ?_
  ·refine Cz.fn (f:=Tryz.f131) Ev.cM rfl rfl rfl _ rfl ?_
   repeat first|refine go ?_|with_reducible intro _
   refine Wk.loop (fun mm L Z' A'=>Z=Z'∧A'=[]∧Kp L [(7,.int .i64 0),(8,.int .i64 0)]) 0 ⟨rfl,rfl,Ev.kM⟩ ?_
   rintro mm L Z' A' - ⟨rfl,rfl,hk⟩
   refine Wk.kp hk ?_
   repeat first|refine go ?_|with_reducible intro _
   refine Wk.ret ⟨_,Rs.tmp rfl Rs.nil,_,Sub.refl _,rfl,rfl,rfl⟩
  rintro v' Z' A' hz ⟨rfl,rfl,rfl⟩
  repeat first|refine go ?_|with_reducible intro _
  refine Wk.ret ⟨_,Rs.tmp rfl Rs.nil,_,Sub.refl _,rfl,rfl,rfl⟩
 rintro v' Z' A' hz ⟨rfl,rfl,rfl⟩
 repeat first|refine go ?_|with_reducible intro _
 refine Wk.ret ⟨_,Rs.tmp rfl Rs.nil,_,Sub.refl _,rfl,rfl,rfl⟩
theorem anyOl {Z:Zone} {v fv:Value} {l:List Int} {n:Nat} (p:Int→Prop) (hn:l.length=n) (hs:n≤1000000) (hp:∀ x∈l,Cz M fv [.int .i64 x] Z [] (fun v' Z' A'=>Bis v' (p x)∧Z=Z'∧A'=[])) :
  Cz M (.func (.func 90) #[] #[]) [v,fv] Z [ol 1 v n (nums l)] (fun v' Z' A'=>∃ vs,(Bis v' (∃ x∈l,p x)∧Z=Z'∧vs=nums l)∧A'=[ol 1 v n vs]):=by
 by_cases h0:n=0
 ·subst h0
  have hl:l=[]:=List.length_eq_zero_iff.1 hn
  subst hl
  refine Cz.olForm fun a cp e=>?_
  subst e
  refine any0A.mono ?_
  rintro v' Z' A' hz ⟨rfl,rfl,rfl⟩
  exact ⟨_,⟨Bis.of (by simp),rfl,rfl⟩,rfl⟩
 ·refine Cz.olOpen Ev.wM fun b cp e hcp=>?_
  subst e
  refine Cz.olShut (b:=b) ((anyOwn p hn hs hp).mono ?_)
  rintro v' Z' A' hz ⟨hb,rfl,rfl⟩
  exact ⟨_,⟨hb,rfl,rfl⟩,rfl⟩
theorem compactS {Z:Zone} {A:List SA} {a:Option Addr} {n c:Nat} (h:n < 2):Cz M (.func (.func 95) #[] #[]) [.slice a n c] Z A (fun v' Z' A'=>v'=.slice a n c∧Z=Z'∧A'=A):=by
 refine Cz.fn (f:=Tryz.f95) Ev.cM rfl rfl rfl _ rfl ?_
 repeat first|refine go ?_|with_reducible intro _
 refine Wk.cond rfl (fun hc=>?_) (fun hc=>?_)
 ·repeat first|refine go ?_|with_reducible intro _
  refine Wk.ret ⟨_,Rs.tmp rfl Rs.nil,_,Sub.refl _,rfl,rfl,rfl⟩
 ·exfalso;simp at hc;omega
theorem cpt_short {l:List Int} (h:l.length < 2):cpt l=l:=by
 match l,h with
 | [],_=>rfl
 | [x],_=>rfl
theorem compactOl {Z:Zone} {v:Value} {l:List Int} {n:Nat} (hn:l.length=n) (hs:n≤1000000) :
  Cz M (.func (.func 95) #[] #[]) [v] Z [ol 1 v n (nums l)] (fun v' Z' A'=>Z=Z'∧∃ w,A'=[ol 1 v' (cpt l).length w]):=by
 by_cases h2:n < 2
 ·refine Cz.olForm fun a cp e=>?_
  subst e
  refine (compactS h2).mono ?_
  rintro v' Z' A' hz ⟨rfl,rfl,rfl⟩
  exact ⟨rfl,_,by rw [cpt_short Ev.wM,hn]⟩
 ·refine Cz.olOpen Ev.wM fun b cp e hcp=>?_
  subst e
  refine (compact_ hn Ev.wM hs hcp).mono ?_
  rintro v' Z' A' hz ⟨rfl,rfl⟩
  exact ⟨rfl,_,rfl⟩
end Go.Proofs.J
