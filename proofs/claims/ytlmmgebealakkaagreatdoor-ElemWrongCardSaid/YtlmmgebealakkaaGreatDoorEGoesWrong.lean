/- The law ElemWrong of chapter 4: what the reference says is wrong of one element, and of two, is wrong, and stays wrong above. -/
import Derived.WalkKit
import Derived.Test.YtlmmgebealakkaaGreatDoorCards
namespace Go.Proofs.YtlmmgebealakkaaGreatDoor.elemWrong
open Go
theorem goes:false=Rows.elemWrongRow.goesBy Tryz.prog:=by kernel_rfl
end Go.Proofs.YtlmmgebealakkaaGreatDoor.elemWrong
