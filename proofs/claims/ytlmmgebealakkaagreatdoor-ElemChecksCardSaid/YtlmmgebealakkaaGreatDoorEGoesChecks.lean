/- The law ElemChecks of chapter 4: the error of any element of any lattice, and whether it is wrong, are what the reference says. -/
import Derived.WalkKit
import Derived.Test.YtlmmgebealakkaaGreatDoorCards
namespace Go.Proofs.YtlmmgebealakkaaGreatDoor.elemChecks
open Go
/-- No goroutine is started by any text that the law comes to. -/
theorem goes : false = Rows.elemChecksRow.goesBy Tryz.prog := by kernel_rfl
end Go.Proofs.YtlmmgebealakkaaGreatDoor.elemChecks
