/- The law ElemTakes of chapter 4: the pieces of an element, and what it has more -/
import Derived.Test.YtlmmgebealakkaaGreatDoorERowTakes
import Derived.Test.YtlmmgebealakkaaGreatDoorEGoesTakes
import Derived.SevenTiedAt
import Derived.Test.YtlmmgebealakkaaGreatDoorTie
import Derived.Test.YtlmmgebealakkaaGreatDoorCards
set_option linter.unusedVariables false
namespace Go.Proofs.YtlmmgebealakkaaGreatDoor.elemTakes
open Go
theorem card:Rows.ElemTakesCardSaid :=
 Claim7.holds_tied_plain_at .later [] Rows.elemTakesCard.laidKinds true Rows.elemTakesCard.stood.harness false
  proved (fun _ h=>by cases h) (by kernel_rfl) (fun _ h=>by cases h) elemTakes_row_tie rfl ⟨rfl,rfl⟩ (by kernel_rfl) rfl
  (fun f fn hf hfn=>by
   obtain rfl:f=10:=Option.some.inj ((show Tryz.prog.funcNamed Rows.elemTakesRow.func=some 10 by kernel_rfl).symm.trans hf) |>.symm
   obtain rfl:fn=Tryz.f10:=(Option.some.inj (Tryz.func10.symm.trans hfn)).symm
   exact ⟨by kernel_rfl,fun j t ht=>by
    rw [Tryz.params10] at ht
    have hm:t∈[27,31,31]:=by simpa using Array.mem_of_getElem? ht
    have hall:([27,31,31].all fun u=>!Tryz.prog.wantsStandIn u)=true:=by kernel_rfl
    exact (show Tryz.prog.wantsStandIn t=false by simpa using List.all_eq_true.1 hall t hm)⟩)
  goes
#print axioms card
end Go.Proofs.YtlmmgebealakkaaGreatDoor.elemTakes
namespace Go.Proofs.YtlmmgebealakkaaGreatDoor
theorem elemTakes_holds:Rows.ElemTakesCardSaid:=elemTakes.card
end Go.Proofs.YtlmmgebealakkaaGreatDoor
