/- The law ElemDeltas of chapter 4: what one element has more than another one -/
import Derived.WalkKit
import Derived.Test.YtlmmgebealakkaaGreatDoorCards
namespace Go.Proofs.YtlmmgebealakkaaGreatDoor.elemDeltas
open Go
theorem goes:false=Rows.elemDeltasRow.goesBy Tryz.prog:=by kernel_rfl
end Go.Proofs.YtlmmgebealakkaaGreatDoor.elemDeltas
