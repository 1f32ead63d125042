/- The law ElemLaws of chapter 4: the join is that of a lattice, and below is its order. -/
import Derived.Test.YtlmmgebealakkaaGreatDoorERowLaws
import Derived.Test.YtlmmgebealakkaaGreatDoorEGoesLaws
import Derived.SevenTiedAt
import Derived.Test.YtlmmgebealakkaaGreatDoorTie
import Derived.Test.YtlmmgebealakkaaGreatDoorCards
set_option linter.unusedVariables false
namespace Go.Proofs.YtlmmgebealakkaaGreatDoor.elemLaws
open Go
theorem card:Rows.ElemLawsCardSaid :=
 Claim7.holds_tied_plain_at .later [] Rows.elemLawsCard.laidKinds true Rows.elemLawsCard.stood.harness false
  proved (fun _ h=>by cases h) (by kernel_rfl) (fun _ h=>by cases h) elemLaws_row_tie rfl ⟨rfl,rfl⟩ (by kernel_rfl) rfl
  (fun f fn hf hfn=>by
   obtain rfl:f=6:=Option.some.inj ((show Tryz.prog.funcNamed Rows.elemLawsRow.func=some 6 by kernel_rfl).symm.trans hf) |>.symm
   obtain rfl:fn=Tryz.f6:=(Option.some.inj (Tryz.func6.symm.trans hfn)).symm
   exact ⟨by kernel_rfl,fun j t ht=>by
    rw [Tryz.params6] at ht
    have hm:t∈[27,50]:=by simpa using Array.mem_of_getElem? ht
    have hall:([27,50].all fun u=>!Tryz.prog.wantsStandIn u)=true:=by kernel_rfl
    exact (show Tryz.prog.wantsStandIn t=false by simpa using List.all_eq_true.1 hall t hm)⟩)
  goes
#print axioms card
end Go.Proofs.YtlmmgebealakkaaGreatDoor.elemLaws
namespace Go.Proofs.YtlmmgebealakkaaGreatDoor
theorem elemLaws_holds:Rows.ElemLawsCardSaid:=elemLaws.card
end Go.Proofs.YtlmmgebealakkaaGreatDoor
