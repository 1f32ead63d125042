/- XX -/
import Derived.Test.YtlmmgebealakkaaGreatDoorHU
import Derived.Test.YtlmmgebealakkaaGreatDoorHK
import Derived.Test.YtlmmgebealakkaaGreatDoorWT
import Derived.Test.YtlmmgebealakkaaGreatDoorEvF
set_option linter.unusedVariables false
set_option linter.unusedSimpArgs false
set_option maxHeartbeats 4000000
set_option maxRecDepth 100000
namespace Go.Proofs.J
open Go.Ev Go
end Go.Proofs.J
namespace Go.Proofs.J
open Go.Ev Go
theorem ElsR_one {Z:Zone} {b:Nat} {a:El} {ca:List Value} (ha:ElR Z a ca) (hb:Z b=some (.cells ca true 0)):ElsR Z (.slice (some ⟨b,0,none⟩) 1 1) [a]:=by
 have hL:=ElRL.snoc ha (l:=[]) (us:=[]) (by simp [ElRL])
 have hl:=hL.length
 refine ⟨_,.inr ⟨b,0,1,_,_,_,rfl,Nat.le_refl _,hb,?_,.inl rfl⟩,hL⟩
 unfold getCells
 simp only [List.nil_append,List.length_append,List.length_cons,List.length_nil] at hl
 rw [if_pos (by simp;omega)]
 rw [List.drop_zero,List.take_of_length_le (by simp;omega)]
 simp
theorem Fit1 {a:El} {d:Nat} (fa:a.Fit d):∀ i (h:i < [a].length),([a][i]).Fit d:=by
 intro i h
 have:i=0:=by simpa using h
 subst this
 exact fa
end Go.Proofs.J
namespace Go.Proofs.J
open Go.Ev Go
end Go.Proofs.J
namespace Go.Proofs.J
open Go.Ev Go
end Go.Proofs.J
namespace Go.Proofs.J
open Go.Ev Go
end Go.Proofs.J
namespace Go.Proofs.J
open Go.Ev Go
end Go.Proofs.J
namespace Go.Proofs.J
open Go.Ev Go
end Go.Proofs.J
namespace Go.Proofs.J
open Go Go.Ev
end Go.Proofs.J
namespace Go.Proofs.J
open Go Go.Ev
theorem wtv_lat {Z:Zone} {v:Value} (h:WtV Tryz.prog Z 27 v):∃ cs l,v=.agg ⟨cs⟩∧LatR Z cs l:=by
 obtain ⟨⟨d,w⟩,s⟩:=h
 rw [Tryz.underlying27] at s
 obtain ⟨⟨cs⟩,rfl⟩:=s
 obtain ⟨l,hl⟩:=wt_lattice w
 exact ⟨cs,l,rfl,hl⟩
end Go.Proofs.J
namespace Go.Proofs.J
open Go Go.Ev
end Go.Proofs.J
