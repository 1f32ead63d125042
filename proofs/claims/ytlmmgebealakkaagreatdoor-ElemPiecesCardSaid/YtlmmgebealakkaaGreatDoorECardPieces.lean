/- The law ElemPieces of chapter 4: the pieces of an element -/
import Derived.Test.YtlmmgebealakkaaGreatDoorERowPieces
import Derived.Test.YtlmmgebealakkaaGreatDoorEGoesPieces
import Derived.SevenTiedAt
import Derived.Test.YtlmmgebealakkaaGreatDoorTie
import Derived.Test.YtlmmgebealakkaaGreatDoorCards
set_option linter.unusedVariables false
namespace Go.Proofs.YtlmmgebealakkaaGreatDoor.elemPieces
open Go
theorem card:Rows.ElemPiecesCardSaid :=
 Claim7.holds_tied_plain_at .later [] Rows.elemPiecesCard.laidKinds true Rows.elemPiecesCard.stood.harness false
  proved (fun _ h=>by cases h) (by kernel_rfl) (fun _ h=>by cases h) elemPieces_row_tie rfl ⟨rfl,rfl⟩ (by kernel_rfl) rfl
  (fun f fn hf hfn=>by
   obtain rfl:f=12:=Option.some.inj ((show Tryz.prog.funcNamed Rows.elemPiecesRow.func=some 12 by kernel_rfl).symm.trans hf) |>.symm
   obtain rfl:fn=Tryz.f12:=(Option.some.inj (Tryz.func12.symm.trans hfn)).symm
   exact ⟨by kernel_rfl,fun j t ht=>by
    rw [Tryz.params12] at ht
    have hm:t∈[27,31,31]:=by simpa using Array.mem_of_getElem? ht
    have hall:([27,31,31].all fun u=>!Tryz.prog.wantsStandIn u)=true:=by kernel_rfl
    exact (show Tryz.prog.wantsStandIn t=false by simpa using List.all_eq_true.1 hall t hm)⟩)
  goes
#print axioms card
end Go.Proofs.YtlmmgebealakkaaGreatDoor.elemPieces
namespace Go.Proofs.YtlmmgebealakkaaGreatDoor
theorem elemPieces_holds:Rows.ElemPiecesCardSaid:=elemPieces.card
end Go.Proofs.YtlmmgebealakkaaGreatDoor
