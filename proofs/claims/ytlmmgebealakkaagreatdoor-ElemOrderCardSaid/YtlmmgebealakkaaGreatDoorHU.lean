/- HU -/
import Derived.Test.YtlmmgebealakkaaGreatDoorEvF
import Derived.Test.YtlmmgebealakkaaGreatDoorHK
set_option linter.unusedVariables false
set_option maxHeartbeats 4000000
set_option maxRecDepth 100000
set_option linter.unusedSimpArgs false
namespace Go.Proofs.J
open Go.Ev Go
end Go.Proofs.J
namespace Go.Proofs.J
open Go.Ev Go
end Go.Proofs.J
namespace Go.Proofs.J
open Go.Ev Go
end Go.Proofs.J
namespace Go.Proofs.J
open Go.Ev Go
end Go.Proofs.J
namespace Go.Proofs.J
open Go.Ev Go
end Go.Proofs.J
