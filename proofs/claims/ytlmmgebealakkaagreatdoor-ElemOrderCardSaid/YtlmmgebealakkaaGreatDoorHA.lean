/- HA -/
import Derived.Test.YtlmmgebealakkaaGreatDoorOK
import Derived.Test.YtlmmgebealakkaaGreatDoorPL
import Derived.Test.YtlmmgebealakkaaGreatDoorEvF
import Derived.Test.YtlmmgebealakkaaGreatDoorSA
import Derived.Test.YtlmmgebealakkaaGreatDoorEA
import Derived.Test.YtlmmgebealakkaaGreatDoorFA
import Derived.Test.YtlmmgebealakkaaGreatDoorOA
set_option linter.unusedVariables false
set_option maxHeartbeats 4000000
set_option maxRecDepth 100000
set_option linter.unusedSimpArgs false
namespace Go.Proofs.J
open Go.Ev Go
abbrev nums (l:List Int):List Value:=l.map (Value.int .i64)
end Go.Proofs.J
namespace Go.Proofs.J
open Go.Ev Go
end Go.Proofs.J
namespace Go.Proofs.J
open Go.Ev Go Go.Sort
end Go.Proofs.J
namespace Go.Proofs.J
open Go.Ev Go Go.Sort
end Go.Proofs.J
namespace Go.Proofs.J
open Go.Ev Go
end Go.Proofs.J
namespace Go.Proofs.J
open Go.Ev Go
end Go.Proofs.J
namespace Go.Proofs.J
open Go.Ev Go
end Go.Proofs.J
namespace Go.Proofs.J
open Go.Ev Go
end Go.Proofs.J
namespace Go.Proofs.J
open Go.Ev Go
end Go.Proofs.J
namespace Go.Proofs.J
open Go.Ev Go
end Go.Proofs.J
