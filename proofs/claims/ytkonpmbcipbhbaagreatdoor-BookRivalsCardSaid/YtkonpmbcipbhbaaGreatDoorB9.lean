/- Layer 6: nominations. -/
import Derived.Test.YtkonpmbcipbhbaaGreatDoorB7
set_option linter.unusedSimpArgs false
set_option linter.unusedVariables false
namespace Go.Proofs.YtkonpmbcipbhbaaGreatDoor
open Go.Ev Go
set_option maxRecDepth 100000
set_option maxHeartbeats 1000000

structure BNom where
  con : Int
  hour : Int
  sent : Int
  amount : Int
def BNom.cells (n : BNom) : List AV := [.int .i64 n.con, .int .i64 n.hour, .int .i64 n.sent, .int .i64 n.amount]
end Go.Proofs.YtkonpmbcipbhbaaGreatDoor
