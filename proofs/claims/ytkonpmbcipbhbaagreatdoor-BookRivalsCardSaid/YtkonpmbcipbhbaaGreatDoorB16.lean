/- Layer 6: copies, shares. -/
import Derived.Test.YtkonpmbcipbhbaaGreatDoorB15
set_option linter.unusedSimpArgs false
set_option linter.unusedVariables false
namespace Go.Proofs.YtkonpmbcipbhbaaGreatDoor
open Go.Ev Go
set_option maxRecDepth 100000
set_option maxHeartbeats 1000000
end Go.Proofs.YtkonpmbcipbhbaaGreatDoor
