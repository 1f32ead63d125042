/- The law ElemLists of chapter 4: the join of a list -/
import Derived.WalkKit
import Derived.Test.YtlmmgebealakkaaGreatDoorCards
namespace Go.Proofs.YtlmmgebealakkaaGreatDoor.elemLists
open Go
theorem goes:false=Rows.elemListsRow.goesBy Tryz.prog:=by kernel_rfl
end Go.Proofs.YtlmmgebealakkaaGreatDoor.elemLists
