/- The law ElemDeltas of chapter 4: what one element has more than another one -/
import Derived.Test.YtlmmgebealakkaaGreatDoorERowDeltas
import Derived.Test.YtlmmgebealakkaaGreatDoorEGoesDeltas
import Derived.SevenTiedAt
import Derived.Test.YtlmmgebealakkaaGreatDoorTie
import Derived.Test.YtlmmgebealakkaaGreatDoorCards
set_option linter.unusedVariables false
namespace Go.Proofs.YtlmmgebealakkaaGreatDoor.elemDeltas
open Go
theorem card:Rows.ElemDeltasCardSaid :=
 Claim7.holds_tied_plain_at .later [] Rows.elemDeltasCard.laidKinds true Rows.elemDeltasCard.stood.harness false
  proved (fun _ h=>by cases h) (by kernel_rfl) (fun _ h=>by cases h) elemDeltas_row_tie rfl ⟨rfl,rfl⟩ (by kernel_rfl) rfl
  (fun f fn hf hfn=>by
   obtain rfl:f=9:=Option.some.inj ((show Tryz.prog.funcNamed Rows.elemDeltasRow.func=some 9 by kernel_rfl).symm.trans hf) |>.symm
   obtain rfl:fn=Tryz.f9:=(Option.some.inj (Tryz.func9.symm.trans hfn)).symm
   exact ⟨by kernel_rfl,fun j t ht=>by
    rw [Tryz.params9] at ht
    have hm:t∈[27,31,31]:=by simpa using Array.mem_of_getElem? ht
    have hall:([27,31,31].all fun u=>!Tryz.prog.wantsStandIn u)=true:=by kernel_rfl
    exact (show Tryz.prog.wantsStandIn t=false by simpa using List.all_eq_true.1 hall t hm)⟩)
  goes
#print axioms card
end Go.Proofs.YtlmmgebealakkaaGreatDoor.elemDeltas
namespace Go.Proofs.YtlmmgebealakkaaGreatDoor
theorem elemDeltas_holds:Rows.ElemDeltasCardSaid:=elemDeltas.card
end Go.Proofs.YtlmmgebealakkaaGreatDoor
