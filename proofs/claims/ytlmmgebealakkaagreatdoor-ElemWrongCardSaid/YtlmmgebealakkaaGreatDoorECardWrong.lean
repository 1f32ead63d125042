/- The law ElemWrong of chapter 4: what the reference says is wrong of one element, and of two, is wrong, and stays wrong above. -/
import Derived.Test.YtlmmgebealakkaaGreatDoorERowWrong
import Derived.Test.YtlmmgebealakkaaGreatDoorEGoesWrong
import Derived.SevenTiedAt
import Derived.Test.YtlmmgebealakkaaGreatDoorTie
import Derived.Test.YtlmmgebealakkaaGreatDoorCards
set_option linter.unusedVariables false
namespace Go.Proofs.YtlmmgebealakkaaGreatDoor.elemWrong
open Go
theorem card:Rows.ElemWrongCardSaid :=
 Claim7.holds_tied_plain_at .later [] Rows.elemWrongCard.laidKinds true Rows.elemWrongCard.stood.harness false
  proved (fun _ h=>by cases h) (by kernel_rfl) (fun _ h=>by cases h) elemWrong_row_tie rfl ⟨rfl,rfl⟩ (by kernel_rfl) rfl
  (fun f fn hf hfn=>by
   obtain rfl:f=7:=Option.some.inj ((show Tryz.prog.funcNamed Rows.elemWrongRow.func=some 7 by kernel_rfl).symm.trans hf) |>.symm
   obtain rfl:fn=Tryz.f7:=(Option.some.inj (Tryz.func7.symm.trans hfn)).symm
   exact ⟨by kernel_rfl,fun j t ht=>by
    rw [Tryz.params7] at ht
    have hm:t∈[27,50]:=by simpa using Array.mem_of_getElem? ht
    have hall:([27,50].all fun u=>!Tryz.prog.wantsStandIn u)=true:=by kernel_rfl
    exact (show Tryz.prog.wantsStandIn t=false by simpa using List.all_eq_true.1 hall t hm)⟩)
  goes
#print axioms card
end Go.Proofs.YtlmmgebealakkaaGreatDoor.elemWrong
namespace Go.Proofs.YtlmmgebealakkaaGreatDoor
theorem elemWrong_holds:Rows.ElemWrongCardSaid:=elemWrong.card
end Go.Proofs.YtlmmgebealakkaaGreatDoor
