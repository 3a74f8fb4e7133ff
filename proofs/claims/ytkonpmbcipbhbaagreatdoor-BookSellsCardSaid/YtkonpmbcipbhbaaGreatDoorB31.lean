/- Layer 6: the law BookGrants. -/
import Derived.Test.YtkonpmbcipbhbaaGreatDoorB30
set_option linter.unusedSimpArgs false
set_option linter.unusedVariables false
namespace Go.Proofs.YtkonpmbcipbhbaaGreatDoor
open Go.Ev Go
set_option maxRecDepth 100000
set_option maxHeartbeats 1000000
theorem r_Same1 {l l' : List Int} {nn nn' : Bool} (hl : l.length ≤ maxLen) (hl' : l'.length ≤ maxLen) : om'.call (.fn 11) [slv 1 true nn (l.map iv), slv 1 true nn' (l'.map iv)] [] = some (.ret (.bool (decide (l = l'))), []) := r_Same hl hl'
end Go.Proofs.YtkonpmbcipbhbaaGreatDoor
