/- The law ElemTakes of chapter 4: the pieces of an element, and what it has more -/
import Derived.WalkKit
import Derived.Test.YtlmmgebealakkaaGreatDoorCards
namespace Go.Proofs.YtlmmgebealakkaaGreatDoor.elemTakes
open Go
theorem goes:false=Rows.elemTakesRow.goesBy Tryz.prog:=by kernel_rfl
end Go.Proofs.YtlmmgebealakkaaGreatDoor.elemTakes
