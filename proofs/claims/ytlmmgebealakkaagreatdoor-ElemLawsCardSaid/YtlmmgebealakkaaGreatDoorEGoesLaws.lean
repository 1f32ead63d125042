/- The law ElemLaws of chapter 4: the join is that of a lattice, and below is its order. -/
import Derived.WalkKit
import Derived.Test.YtlmmgebealakkaaGreatDoorCards
namespace Go.Proofs.YtlmmgebealakkaaGreatDoor.elemLaws
open Go
theorem goes:false=Rows.elemLawsRow.goesBy Tryz.prog:=by kernel_rfl
end Go.Proofs.YtlmmgebealakkaaGreatDoor.elemLaws
