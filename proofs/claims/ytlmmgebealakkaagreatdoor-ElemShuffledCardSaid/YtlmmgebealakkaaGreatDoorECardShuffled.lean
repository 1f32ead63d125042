/- The law ElemShuffled of chapter 4: the join of a list in another order -/
import Derived.Test.YtlmmgebealakkaaGreatDoorERowShuffled
import Derived.Test.YtlmmgebealakkaaGreatDoorEGoesShuffled
import Derived.SevenTiedAt
import Derived.Test.YtlmmgebealakkaaGreatDoorTie
import Derived.Test.YtlmmgebealakkaaGreatDoorCards
set_option linter.unusedVariables false
namespace Go.Proofs.YtlmmgebealakkaaGreatDoor.elemShuffled
open Go
theorem card:Rows.ElemShuffledCardSaid :=
 Claim7.holds_tied_plain_at .later [] Rows.elemShuffledCard.laidKinds true Rows.elemShuffledCard.stood.harness false
  proved (fun _ h=>by cases h) (by kernel_rfl) (fun _ h=>by cases h) elemShuffled_row_tie rfl ⟨rfl,rfl⟩ (by kernel_rfl) rfl
  (fun f fn hf hfn=>by
   obtain rfl:f=11:=Option.some.inj ((show Tryz.prog.funcNamed Rows.elemShuffledRow.func=some 11 by kernel_rfl).symm.trans hf) |>.symm
   obtain rfl:fn=Tryz.f11:=(Option.some.inj (Tryz.func11.symm.trans hfn)).symm
   exact ⟨by kernel_rfl,fun j t ht=>by
    rw [Tryz.params11] at ht
    have hm:t∈[27,29,61]:=by simpa using Array.mem_of_getElem? ht
    have hall:([27,29,61].all fun u=>!Tryz.prog.wantsStandIn u)=true:=by kernel_rfl
    exact (show Tryz.prog.wantsStandIn t=false by simpa using List.all_eq_true.1 hall t hm)⟩)
  goes
#print axioms card
end Go.Proofs.YtlmmgebealakkaaGreatDoor.elemShuffled
namespace Go.Proofs.YtlmmgebealakkaaGreatDoor
theorem elemShuffled_holds:Rows.ElemShuffledCardSaid:=elemShuffled.card
end Go.Proofs.YtlmmgebealakkaaGreatDoor
