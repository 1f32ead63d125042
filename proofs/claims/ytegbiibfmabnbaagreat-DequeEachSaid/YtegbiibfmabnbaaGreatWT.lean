/- WT -/
import Derived.Test.YtegbiibfmabnbaaGreatRows
import Derived.Test.YtegbiibfmabnbaaGreatTab
import Derived.Test.YtegbiibfmabnbaaGreatEvF
import Derived.Test.YtegbiibfmabnbaaGreatPL
set_option linter.unusedVariables false
set_option maxHeartbeats 4000000
set_option linter.unusedSimpArgs false
namespace Go.Proofs.J
open Go.Ev Go
theorem drop1 {vs:List Value} {i:Nat} {x:Value} (h:(vs.drop (i*1)).take 1=[x]):vs[i]?=some x:=by
 rw [Nat.mul_one] at h
 have:=congrArg (fun l=>l[0]?) h
 simpa [List.getElem?_take,List.getElem?_drop] using this
theorem list_of {α:Type} {R:Value→α→Prop}:∀ (vs:List Value),(∀ i,i < vs.length→∃ x a,vs[i]?=some x∧R x a)→∃ l:List α,All2 R vs l
 | [],_=>⟨[],.nil⟩
 | v::vs,h=>by
  obtain ⟨x,a,h1,h2⟩:=h 0 (by simp)
  obtain ⟨l,hl⟩:=list_of vs fun i hi=>by have:=h (i+1) (by simp;omega);simpa using this
  simp at h1
  exact ⟨a::l,.cons (h1▸h2) hl⟩
theorem c5:Tryz.prog.cellsOf 5=1:=by kernel_rfl
theorem c3:Tryz.prog.cellsOf 3=1:=by kernel_rfl
theorem c73:Tryz.prog.cellsOf 62=1:=by kernel_rfl
theorem c52:Tryz.prog.cellsOf 23=1:=by kernel_rfl
theorem ints_of {k:IntKind} {vs:List Value} {l:List Int} (h:All2 (fun x a=>x=Value.int k a) vs l):vs=l.map (Value.int k):=by
 induction h with
 | nil=>rfl
 | cons h _ ih=>rw [h,ih];rfl
end Go.Proofs.J
