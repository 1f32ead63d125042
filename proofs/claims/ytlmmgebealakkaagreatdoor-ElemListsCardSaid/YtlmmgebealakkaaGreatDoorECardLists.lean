/- The law ElemLists of chapter 4: the join of a list -/
import Derived.Test.YtlmmgebealakkaaGreatDoorERowLists
import Derived.Test.YtlmmgebealakkaaGreatDoorEGoesLists
import Derived.SevenTiedAt
import Derived.Test.YtlmmgebealakkaaGreatDoorTie
import Derived.Test.YtlmmgebealakkaaGreatDoorCards
set_option linter.unusedVariables false
namespace Go.Proofs.YtlmmgebealakkaaGreatDoor.elemLists
open Go
theorem card:Rows.ElemListsCardSaid :=
 Claim7.holds_tied_plain_at .later [] Rows.elemListsCard.laidKinds true Rows.elemListsCard.stood.harness false
  proved (fun _ h=>by cases h) (by kernel_rfl) (fun _ h=>by cases h) elemLists_row_tie rfl ⟨rfl,rfl⟩ (by kernel_rfl) rfl
  (fun f fn hf hfn=>by
   obtain rfl:f=8:=Option.some.inj ((show Tryz.prog.funcNamed Rows.elemListsRow.func=some 8 by kernel_rfl).symm.trans hf) |>.symm
   obtain rfl:fn=Tryz.f8:=(Option.some.inj (Tryz.func8.symm.trans hfn)).symm
   exact ⟨by kernel_rfl,fun j t ht=>by
    rw [Tryz.params8] at ht
    have hm:t∈[27,29]:=by simpa using Array.mem_of_getElem? ht
    have hall:([27,29].all fun u=>!Tryz.prog.wantsStandIn u)=true:=by kernel_rfl
    exact (show Tryz.prog.wantsStandIn t=false by simpa using List.all_eq_true.1 hall t hm)⟩)
  goes
#print axioms card
end Go.Proofs.YtlmmgebealakkaaGreatDoor.elemLists
namespace Go.Proofs.YtlmmgebealakkaaGreatDoor
theorem elemLists_holds:Rows.ElemListsCardSaid:=elemLists.card
end Go.Proofs.YtlmmgebealakkaaGreatDoor
