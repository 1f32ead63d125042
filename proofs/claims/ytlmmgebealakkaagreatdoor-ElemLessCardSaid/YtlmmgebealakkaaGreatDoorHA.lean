/- HA -/
import Derived.Test.YtlmmgebealakkaaGreatDoorOK
import Derived.Test.YtlmmgebealakkaaGreatDoorPL
import Derived.Test.YtlmmgebealakkaaGreatDoorEvF
import Derived.Test.YtlmmgebealakkaaGreatDoorSA
import Derived.Test.YtlmmgebealakkaaGreatDoorEA
import Derived.Test.YtlmmgebealakkaaGreatDoorFA
import Derived.Test.YtlmmgebealakkaaGreatDoorOA
/- slices.Grow, slices.Concat of numbers. -/
namespace Go.Proofs.J
open Go.Ev Go
set_option linter.unusedVariables false
set_option maxHeartbeats 4000000
abbrev nums (l : List Int) : List Value := l.map (Value.int .i64)
end Go.Proofs.J
/- slices.Compact of numbers. -/
namespace Go.Proofs.J
open Go.Ev Go
set_option linter.unusedVariables false
set_option maxHeartbeats 4000000
end Go.Proofs.J
/- The keys of two lists, ascending. -/
namespace Go.Proofs.J
open Go.Ev Go Go.Sort
set_option linter.unusedVariables false
set_option maxHeartbeats 4000000
end Go.Proofs.J
/- slices.BinarySearch of numbers, and what a map has at a key. -/
namespace Go.Proofs.J
open Go.Ev Go Go.Sort
set_option linter.unusedVariables false
set_option maxHeartbeats 4000000
end Go.Proofs.J
/- elem.clone. -/
namespace Go.Proofs.J
open Go.Ev Go
set_option linter.unusedVariables false
set_option maxHeartbeats 4000000
end Go.Proofs.J
/- order.Join, of a lattice that is right. -/
namespace Go.Proofs.J
open Go.Ev Go
set_option linter.unusedVariables false
set_option maxHeartbeats 4000000
end Go.Proofs.J
/- The reference's join in a table. -/
namespace Go.Proofs.J
open Go.Ev Go
set_option linter.unusedVariables false
set_option maxHeartbeats 4000000
end Go.Proofs.J
/- elem.join. -/
namespace Go.Proofs.J
open Go.Ev Go
set_option linter.unusedVariables false
set_option maxHeartbeats 4000000
set_option maxRecDepth 100000
end Go.Proofs.J
/- The keys of two lists, in the reference. -/
namespace Go.Proofs.J
open Go.Ev Go
set_option linter.unusedVariables false
set_option maxHeartbeats 4000000
end Go.Proofs.J
/- The join of the reference. -/
namespace Go.Proofs.J
open Go.Ev Go
set_option linter.unusedVariables false
set_option maxHeartbeats 4000000
set_option maxRecDepth 100000
end Go.Proofs.J
