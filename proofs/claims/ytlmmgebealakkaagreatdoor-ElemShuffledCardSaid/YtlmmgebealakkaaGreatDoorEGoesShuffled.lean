/- The law ElemShuffled of chapter 4: the join of a list in another order -/
import Derived.WalkKit
import Derived.Test.YtlmmgebealakkaaGreatDoorCards
namespace Go.Proofs.YtlmmgebealakkaaGreatDoor.elemShuffled
open Go
theorem goes:false=Rows.elemShuffledRow.goesBy Tryz.prog:=by kernel_rfl
end Go.Proofs.YtlmmgebealakkaaGreatDoor.elemShuffled
