/- The law ElemOrder of chapter 4: which element comes first -/
import Derived.Test.YtlmmgebealakkaaGreatDoorERowOrder
import Derived.Test.YtlmmgebealakkaaGreatDoorEGoesOrder
import Derived.SevenTiedAt
import Derived.Test.YtlmmgebealakkaaGreatDoorTie
import Derived.Test.YtlmmgebealakkaaGreatDoorCards
set_option linter.unusedVariables false
namespace Go.Proofs.YtlmmgebealakkaaGreatDoor.elemOrder
open Go
theorem card:Rows.ElemOrderCardSaid :=
 Claim7.holds_tied_plain_at .later [] Rows.elemOrderCard.laidKinds true Rows.elemOrderCard.stood.harness false
  proved (fun _ h=>by cases h) (by kernel_rfl) (fun _ h=>by cases h) elemOrder_row_tie rfl ⟨rfl,rfl⟩ (by kernel_rfl) rfl
  (fun f fn hf hfn=>by
   obtain rfl:f=13:=Option.some.inj ((show Tryz.prog.funcNamed Rows.elemOrderRow.func=some 13 by kernel_rfl).symm.trans hf) |>.symm
   obtain rfl:fn=Tryz.f13:=(Option.some.inj (Tryz.func13.symm.trans hfn)).symm
   exact ⟨by kernel_rfl,fun j t ht=>by
    rw [Tryz.params13] at ht
    have hm:t∈[27,50]:=by simpa using Array.mem_of_getElem? ht
    have hall:([27,50].all fun u=>!Tryz.prog.wantsStandIn u)=true:=by kernel_rfl
    exact (show Tryz.prog.wantsStandIn t=false by simpa using List.all_eq_true.1 hall t hm)⟩)
  goes
#print axioms card
end Go.Proofs.YtlmmgebealakkaaGreatDoor.elemOrder
namespace Go.Proofs.YtlmmgebealakkaaGreatDoor
theorem elemOrder_holds:Rows.ElemOrderCardSaid:=elemOrder.card
end Go.Proofs.YtlmmgebealakkaaGreatDoor
