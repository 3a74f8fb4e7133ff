/- Layer 6: what is granted, by the reference. -/
import Derived.Test.YtdbiogihimdpcaaGreatDoorB17
set_option linter.unusedSimpArgs false
set_option linter.unusedVariables false
namespace Go.Proofs.YtdbiogihimdpcaaGreatDoor
open Go.Ev Go
set_option maxRecDepth 100000
set_option maxHeartbeats 1000000
def othR (c : BCon) (w : Int) : Int := if c.firm = true then 0 else w
def ozR (cs : List BCon) (l : List Int) : List Int := List.zipWith othR cs l
def grantR (cs : List BCon) (l : List Int) (most : Int) : List Int :=
  if sumF l 0 ≤ most then l else if most < sumF (fzL cs l) 0 then shareF most (sumF (fzL cs l) 0) (fzL cs l) 0 0
  else List.zipWith addW (shareF (IntKind.i64.wrap (most - sumF (fzL cs l) 0)) (sumF (ozR cs l) 0) (ozR cs l) 0 0) (fzL cs l)
theorem grantL_length {cs : List BCon} {l : List Int} (h : l.length = cs.length) (most : Int) : (grantL cs l most).length = l.length := by
  unfold grantL
  split
  · rfl
  · split
    · simp [shareF_length, fzL, h]
    · simp [shareF_length, fzL, ozL, h]
theorem grantR_length {cs : List BCon} {l : List Int} (h : l.length = cs.length) (most : Int) : (grantR cs l most).length = l.length := by
  unfold grantR
  split
  · rfl
  · split
    · simp [shareF_length, fzL, h]
    · simp [shareF_length, fzL, ozR, h]
end Go.Proofs.YtdbiogihimdpcaaGreatDoor
