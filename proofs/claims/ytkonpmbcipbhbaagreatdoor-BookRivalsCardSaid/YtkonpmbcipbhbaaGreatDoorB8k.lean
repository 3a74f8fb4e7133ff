/- Layer 6: the document's examples, evaluated. -/
import Derived.Test.YtkonpmbcipbhbaaGreatDoorB8
set_option linter.unusedSimpArgs false
set_option linter.unusedVariables false
namespace Go.Proofs.YtkonpmbcipbhbaaGreatDoor
open Go.Ev Go
set_option maxRecDepth 100000
set_option maxHeartbeats 1000000
theorem known_orc : (orc Tryz.prog pr2 100).call (.fn 6) [] [] = some (.ret (.bool true), []) := by kernel_rfl
theorem known_ok : om'.call (.fn 6) [] [] = some (.ret (.bool true), []) := ext_call (pr := pr) (pr2 := pr2) rfl (fun f hf => by
  simp only [pr2] at hf
  split at hf
  · cases hf
  · split at hf
    · cases hf
    · exact hf) pr2_ok known_orc
end Go.Proofs.YtkonpmbcipbhbaaGreatDoor
