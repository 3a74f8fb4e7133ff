/- Layer 6: the reference's Free; the law BookChecks. -/
import Derived.Test.YtkonpmbcipbhbaaGreatDoorB5
set_option linter.unusedSimpArgs false
set_option linter.unusedVariables false
namespace Go.Proofs.YtkonpmbcipbhbaaGreatDoor
open Go.Ev Go
set_option maxRecDepth 100000
set_option maxHeartbeats 1000000

theorem i_eqself (a : Int) : (a == a) = true := by simp
end Go.Proofs.YtkonpmbcipbhbaaGreatDoor
