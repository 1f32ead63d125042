/- WT -/
import Derived.Test.YtegbiibfmabnbaaGreatRows
import Derived.Test.YtegbiibfmabnbaaGreatTab
import Derived.Test.YtegbiibfmabnbaaGreatEvF
import Derived.Test.YtegbiibfmabnbaaGreatPL
set_option linter.unusedVariables false
set_option maxHeartbeats 4000000
set_option linter.unusedSimpArgs false
namespace Go.Proofs.J
open Go.Ev Go
theorem drop1 {vs:List Value} {i:Nat} {x:Value} (h:(vs.drop (i*1)).take 1=[x]):vs[i]?=some x:=by
 rw [Nat.mul_one] at h
 have:=congrArg (fun l=>l[0]?) h
 simpa [List.getElem?_take,List.getElem?_drop] using this
theorem list_of {α:Type} {R:Value→α→Prop}:∀ (vs:List Value),(∀ i,i < vs.length→∃ x a,vs[i]?=some x∧R x a)→∃ l:List α,All2 R vs l
 | [],_=>⟨[],.nil⟩
 | v::vs,h=>by
  obtain ⟨x,a,h1,h2⟩:=h 0 (by simp)
  obtain ⟨l,hl⟩:=list_of vs fun i hi=>by have:=h (i+1) (by simp;omega);simpa using this
  simp at h1
  exact ⟨a::l,.cons (h1▸h2) hl⟩
theorem len2 {l:List Value} (h:l.length=2):∃ a b,l=[a,b]:=by
 match l,h with
 | [a,b],_=>exact ⟨a,b,rfl⟩
theorem c5:Tryz.prog.cellsOf 5=1:=by kernel_rfl
theorem c3:Tryz.prog.cellsOf 3=1:=by kernel_rfl
theorem c52:Tryz.prog.cellsOf 23=1:=by kernel_rfl
theorem ints_of {k:IntKind} {vs:List Value} {l:List Int} (h:All2 (fun x a=>x=Value.int k a) vs l):vs=l.map (Value.int k):=by
 induction h with
 | nil=>rfl
 | cons h _ ih=>rw [h,ih];rfl
theorem wt_bytes {Z:Zone} {d:Nat} {cs:List Value} (h:Wt Tryz.prog Z d 62 cs):∃ v xs,cs=[v]∧Sl Z 1 v xs.length (by8 xs):=by
 cases d with
 | zero=>exact h.elim
 | succ d =>
  simp only [Wt,Tryz.underlying62,c5] at h
  obtain ⟨v,m,vs,rfl,hs,_,hw⟩:=h
  have hl:=hs.length
  obtain ⟨l,hl2⟩:=list_of (R:=fun x a=>x=Value.int .u8 a) vs fun i hi=>by
   have:=hw i Ev.wM
   cases d with
   | zero=>exact this.elim
   | succ d =>
    simp only [Wt,Tryz.underlying5] at this
    obtain ⟨n,e,_⟩:=this
    exact ⟨_,n,drop1 e,rfl⟩
  have e:=ints_of hl2
  subst e
  refine ⟨v,l,rfl,?_⟩
  have:m=l.length:=by simp at hl;omega
  subst this
  exact hs
theorem wt_ints {Z:Zone} {d:Nat} {cs:List Value} (h:Wt Tryz.prog Z d 23 cs):∃ v xs,cs=[v]∧Sl Z 1 v xs.length (i64s xs):=by
 cases d with
 | zero=>exact h.elim
 | succ d =>
  simp only [Wt,Tryz.underlying23,c3] at h
  obtain ⟨v,m,vs,rfl,hs,_,hw⟩:=h
  have hl:=hs.length
  obtain ⟨l,hl2⟩:=list_of (R:=fun x a=>x=Value.int .i64 a) vs fun i hi=>by
   have:=hw i Ev.wM
   cases d with
   | zero=>exact this.elim
   | succ d =>
    simp only [Wt,Tryz.underlying3] at this
    obtain ⟨n,e,_⟩:=this
    exact ⟨_,n,drop1 e,rfl⟩
  have e:=ints_of hl2
  subst e
  refine ⟨v,l,rfl,?_⟩
  have:m=l.length:=by simp at hl;omega
  subst this
  exact hs
end Go.Proofs.J
