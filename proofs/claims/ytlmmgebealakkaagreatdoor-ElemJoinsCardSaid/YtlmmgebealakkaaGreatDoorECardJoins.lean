/- The law ElemJoins of chapter 4: the join of any two elements of any lattice, whether one is below the other one, and whether they exclude each other, or the errors, are what the reference says. -/
import Derived.Test.YtlmmgebealakkaaGreatDoorERowJoins
import Derived.Test.YtlmmgebealakkaaGreatDoorEGoesJoins
import Derived.SevenTiedAt
import Derived.Test.YtlmmgebealakkaaGreatDoorTie
import Derived.Test.YtlmmgebealakkaaGreatDoorCards
set_option linter.unusedVariables false
namespace Go.Proofs.YtlmmgebealakkaaGreatDoor.elemJoins
open Go
theorem card:Rows.ElemJoinsCardSaid :=
 Claim7.holds_tied_plain_at .later [] Rows.elemJoinsCard.laidKinds true Rows.elemJoinsCard.stood.harness false
  proved (fun _ h=>by cases h) (by kernel_rfl) (fun _ h=>by cases h) elemJoins_row_tie rfl ⟨rfl,rfl⟩ (by kernel_rfl) rfl
  (fun f fn hf hfn=>by
   obtain rfl:f=5:=Option.some.inj ((show Tryz.prog.funcNamed Rows.elemJoinsRow.func=some 5 by kernel_rfl).symm.trans hf) |>.symm
   obtain rfl:fn=Tryz.f5:=(Option.some.inj (Tryz.func5.symm.trans hfn)).symm
   exact ⟨by kernel_rfl,fun j t ht=>by
    rw [Tryz.params5] at ht
    have hm:t∈[27,31,31]:=by simpa using Array.mem_of_getElem? ht
    have hall:([27,31,31].all fun u=>!Tryz.prog.wantsStandIn u)=true:=by kernel_rfl
    exact (show Tryz.prog.wantsStandIn t=false by simpa using List.all_eq_true.1 hall t hm)⟩)
  goes
#print axioms card
end Go.Proofs.YtlmmgebealakkaaGreatDoor.elemJoins
namespace Go.Proofs.YtlmmgebealakkaaGreatDoor
theorem elemJoins_holds:Rows.ElemJoinsCardSaid:=elemJoins.card
end Go.Proofs.YtlmmgebealakkaaGreatDoor
