/- The law ElemJoins of chapter 4: the join of any two elements of any lattice, whether one is below the other one, and whether they exclude each other, or the errors, are what the reference says. -/
import Derived.WalkKit
import Derived.Test.YtlmmgebealakkaaGreatDoorCards
namespace Go.Proofs.YtlmmgebealakkaaGreatDoor.elemJoins
open Go
theorem goes:false=Rows.elemJoinsRow.goesBy Tryz.prog:=by kernel_rfl
end Go.Proofs.YtlmmgebealakkaaGreatDoor.elemJoins
