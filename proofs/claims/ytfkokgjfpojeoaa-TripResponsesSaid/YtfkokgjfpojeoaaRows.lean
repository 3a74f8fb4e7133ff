/-
  No cell of these rows narrows 'for every input' (looked for: loops, veiled, ifaces, maps, wideKeys, modest, calm, conditions, laid).
  DERIVED. THE GIVEN ROWS OF THIS SEAT. 9 by the template 'for every input the law returns true; each argument reads behind the call as it read before'; 0 by the template 'total and deterministic' (their statements: YtfkokgjfpojeoaaTotals.lean).
  GIVEN WITH THE SEED: the statements are not yours to turn. If you find one false, say at which input.
  Laid BY PROGRAM, IN A SANDBOX (cutbox-rows.mjs): the forced cells as the released guide's own fill.sh prints them over the translation 2c3b80c0c794d678… (all of the seat's roots in one cut). By AI agents, Wed Nov 11 2026. No macro, syntax, notation, axiom, sorry.
-/
import Derived.Test.YtfkokgjfpojeoaaChecked
import GoSem.Claim
import GoSem.ClaimJoined
import GoSem.ClaimMapViews
import Derived.JoinedTies
import Derived.KernelRfl
namespace Go.Proofs.Ytfkokgjfpojeoaa
/- THE CELL 'sum', in the pinned program and in every row, IS THE sha256 OF THE DUMP (.gsa) THAT YtfkokgjfpojeoaaProg.lean LOADS. Nothing in Lean hashes anything: it is a label: what it is worth is what the hold of that sum in a sandbox is worth. -/
noncomputable def Try.pinned : Pinned := { name := "ytfkokgjfpojeoaa", sum := "2c3b80c0c794d67852bb066c5dee1e4dd9dd5eb7892d121993e4b4b40d32cbab", checked := Try.checked }
namespace Rows
def none {H : Type} : Left H := { results := [], args := [] }

/-- 'saltdomelaw07.TripSteps': WHATEVER THE INPUT: true; the input reads as it did. -/
def tripStepsSpec : ChangeSpec := { name := "tripSteps", fn := fun _ => fun
  | [d1, d2, d3, d4] => { results := [.lit (.bool true)], args := [d1, d2, d3, d4] }
  | _ => none }
def tripStepsRow : OpenClaim := { program := "ytfkokgjfpojeoaa", sum := "2c3b80c0c794d67852bb066c5dee1e4dd9dd5eb7892d121993e4b4b40d32cbab", func := "saltdome/saltdomelaw07.TripSteps", spec := "tripSteps", unfollowed := true, recurses := true, plainKeys := false, apart := false }
def TripStepsSaid : Prop := tripStepsRow.holds Try.pinned (OpenSpec.ofChange tripStepsSpec)

/-- ITS FALSE NEIGHBOUR: 'it returns false'. Refute it at one input. -/
def tripStepsWrong : ChangeSpec := { name := "tripSteps", fn := fun _ => fun
  | [d1, d2, d3, d4] => { results := [.lit (.bool false)], args := [d1, d2, d3, d4] }
  | _ => none }
def TripStepsWrongFalsely : Prop := tripStepsRow.holds Try.pinned (OpenSpec.ofChange tripStepsWrong)

/-- 'saltdomelaw07.TripRobust': WHATEVER THE INPUT: true; the input reads as it did. -/
def tripRobustSpec : ChangeSpec := { name := "tripRobust", fn := fun _ => fun
  | [d1, d2] => { results := [.lit (.bool true)], args := [d1, d2] }
  | _ => none }
def tripRobustRow : OpenClaim := { program := "ytfkokgjfpojeoaa", sum := "2c3b80c0c794d67852bb066c5dee1e4dd9dd5eb7892d121993e4b4b40d32cbab", func := "saltdome/saltdomelaw07.TripRobust", spec := "tripRobust", unfollowed := true, recurses := true, plainKeys := false, apart := false }
def TripRobustSaid : Prop := tripRobustRow.holds Try.pinned (OpenSpec.ofChange tripRobustSpec)

/-- ITS FALSE NEIGHBOUR: 'it returns false'. Refute it at one input. -/
def tripRobustWrong : ChangeSpec := { name := "tripRobust", fn := fun _ => fun
  | [d1, d2] => { results := [.lit (.bool false)], args := [d1, d2] }
  | _ => none }
def TripRobustWrongFalsely : Prop := tripRobustRow.holds Try.pinned (OpenSpec.ofChange tripRobustWrong)

/-- 'saltdomelaw07.TripResponses': WHATEVER THE INPUT: true; the input reads as it did. -/
def tripResponsesSpec : ChangeSpec := { name := "tripResponses", fn := fun _ => fun
  | [d1, d2, d3] => { results := [.lit (.bool true)], args := [d1, d2, d3] }
  | _ => none }
def tripResponsesRow : OpenClaim := { program := "ytfkokgjfpojeoaa", sum := "2c3b80c0c794d67852bb066c5dee1e4dd9dd5eb7892d121993e4b4b40d32cbab", func := "saltdome/saltdomelaw07.TripResponses", spec := "tripResponses", unfollowed := true, recurses := true, plainKeys := false, apart := false }
def TripResponsesSaid : Prop := tripResponsesRow.holds Try.pinned (OpenSpec.ofChange tripResponsesSpec)

/-- ITS FALSE NEIGHBOUR: 'it returns false'. Refute it at one input. -/
def tripResponsesWrong : ChangeSpec := { name := "tripResponses", fn := fun _ => fun
  | [d1, d2, d3] => { results := [.lit (.bool false)], args := [d1, d2, d3] }
  | _ => none }
def TripResponsesWrongFalsely : Prop := tripResponsesRow.holds Try.pinned (OpenSpec.ofChange tripResponsesWrong)

/-- 'saltdomelaw07.TripSure': WHATEVER THE INPUT: true; the input reads as it did. -/
def tripSureSpec : ChangeSpec := { name := "tripSure", fn := fun _ => fun
  | [d1, d2, d3, d4, d5] => { results := [.lit (.bool true)], args := [d1, d2, d3, d4, d5] }
  | _ => none }
def tripSureRow : OpenClaim := { program := "ytfkokgjfpojeoaa", sum := "2c3b80c0c794d67852bb066c5dee1e4dd9dd5eb7892d121993e4b4b40d32cbab", func := "saltdome/saltdomelaw07.TripSure", spec := "tripSure", unfollowed := true, recurses := true, plainKeys := false, apart := false }
def TripSureSaid : Prop := tripSureRow.holds Try.pinned (OpenSpec.ofChange tripSureSpec)

/-- ITS FALSE NEIGHBOUR: 'it returns false'. Refute it at one input. -/
def tripSureWrong : ChangeSpec := { name := "tripSure", fn := fun _ => fun
  | [d1, d2, d3, d4, d5] => { results := [.lit (.bool false)], args := [d1, d2, d3, d4, d5] }
  | _ => none }
def TripSureWrongFalsely : Prop := tripSureRow.holds Try.pinned (OpenSpec.ofChange tripSureWrong)

/-- 'saltdomelaw07.TripMore': WHATEVER THE INPUT: true; the input reads as it did. -/
def tripMoreSpec : ChangeSpec := { name := "tripMore", fn := fun _ => fun
  | [d1, d2, d3, d4, d5] => { results := [.lit (.bool true)], args := [d1, d2, d3, d4, d5] }
  | _ => none }
def tripMoreRow : OpenClaim := { program := "ytfkokgjfpojeoaa", sum := "2c3b80c0c794d67852bb066c5dee1e4dd9dd5eb7892d121993e4b4b40d32cbab", func := "saltdome/saltdomelaw07.TripMore", spec := "tripMore", unfollowed := true, recurses := true, plainKeys := false, apart := false }
def TripMoreSaid : Prop := tripMoreRow.holds Try.pinned (OpenSpec.ofChange tripMoreSpec)

/-- ITS FALSE NEIGHBOUR: 'it returns false'. Refute it at one input. -/
def tripMoreWrong : ChangeSpec := { name := "tripMore", fn := fun _ => fun
  | [d1, d2, d3, d4, d5] => { results := [.lit (.bool false)], args := [d1, d2, d3, d4, d5] }
  | _ => none }
def TripMoreWrongFalsely : Prop := tripMoreRow.holds Try.pinned (OpenSpec.ofChange tripMoreWrong)

/-- 'saltdomelaw07.TripChecks': WHATEVER THE INPUT: true; the input reads as it did. -/
def tripChecksSpec : ChangeSpec := { name := "tripChecks", fn := fun _ => fun
  | [d1, d2] => { results := [.lit (.bool true)], args := [d1, d2] }
  | _ => none }
def tripChecksRow : OpenClaim := { program := "ytfkokgjfpojeoaa", sum := "2c3b80c0c794d67852bb066c5dee1e4dd9dd5eb7892d121993e4b4b40d32cbab", func := "saltdome/saltdomelaw07.TripChecks", spec := "tripChecks", unfollowed := true, recurses := true, plainKeys := false, apart := false }
def TripChecksSaid : Prop := tripChecksRow.holds Try.pinned (OpenSpec.ofChange tripChecksSpec)

/-- ITS FALSE NEIGHBOUR: 'it returns false'. Refute it at one input. -/
def tripChecksWrong : ChangeSpec := { name := "tripChecks", fn := fun _ => fun
  | [d1, d2] => { results := [.lit (.bool false)], args := [d1, d2] }
  | _ => none }
def TripChecksWrongFalsely : Prop := tripChecksRow.holds Try.pinned (OpenSpec.ofChange tripChecksWrong)

/-- 'saltdomelaw07.TripReaches': WHATEVER THE INPUT: true; the input reads as it did. -/
def tripReachesSpec : ChangeSpec := { name := "tripReaches", fn := fun _ => fun
  | [d1, d2] => { results := [.lit (.bool true)], args := [d1, d2] }
  | _ => none }
def tripReachesRow : OpenClaim := { program := "ytfkokgjfpojeoaa", sum := "2c3b80c0c794d67852bb066c5dee1e4dd9dd5eb7892d121993e4b4b40d32cbab", func := "saltdome/saltdomelaw07.TripReaches", spec := "tripReaches", unfollowed := true, recurses := true, plainKeys := false, apart := false }
def TripReachesSaid : Prop := tripReachesRow.holds Try.pinned (OpenSpec.ofChange tripReachesSpec)

/-- ITS FALSE NEIGHBOUR: 'it returns false'. Refute it at one input. -/
def tripReachesWrong : ChangeSpec := { name := "tripReaches", fn := fun _ => fun
  | [d1, d2] => { results := [.lit (.bool false)], args := [d1, d2] }
  | _ => none }
def TripReachesWrongFalsely : Prop := tripReachesRow.holds Try.pinned (OpenSpec.ofChange tripReachesWrong)

/-- 'saltdomelaw07.TripNever': WHATEVER THE INPUT: true; the input reads as it did. -/
def tripNeverSpec : ChangeSpec := { name := "tripNever", fn := fun _ => fun
  | [d1, d2, d3] => { results := [.lit (.bool true)], args := [d1, d2, d3] }
  | _ => none }
def tripNeverRow : OpenClaim := { program := "ytfkokgjfpojeoaa", sum := "2c3b80c0c794d67852bb066c5dee1e4dd9dd5eb7892d121993e4b4b40d32cbab", func := "saltdome/saltdomelaw07.TripNever", spec := "tripNever", unfollowed := true, recurses := true, plainKeys := false, apart := false }
def TripNeverSaid : Prop := tripNeverRow.holds Try.pinned (OpenSpec.ofChange tripNeverSpec)

/-- ITS FALSE NEIGHBOUR: 'it returns false'. Refute it at one input. -/
def tripNeverWrong : ChangeSpec := { name := "tripNever", fn := fun _ => fun
  | [d1, d2, d3] => { results := [.lit (.bool false)], args := [d1, d2, d3] }
  | _ => none }
def TripNeverWrongFalsely : Prop := tripNeverRow.holds Try.pinned (OpenSpec.ofChange tripNeverWrong)

/-- 'saltdomelaw07.TripStops': WHATEVER THE INPUT: true; the input reads as it did. -/
def tripStopsSpec : ChangeSpec := { name := "tripStops", fn := fun _ => fun
  | [d1, d2, d3, d4, d5] => { results := [.lit (.bool true)], args := [d1, d2, d3, d4, d5] }
  | _ => none }
def tripStopsRow : OpenClaim := { program := "ytfkokgjfpojeoaa", sum := "2c3b80c0c794d67852bb066c5dee1e4dd9dd5eb7892d121993e4b4b40d32cbab", func := "saltdome/saltdomelaw07.TripStops", spec := "tripStops", unfollowed := true, recurses := true, plainKeys := false, apart := false }
def TripStopsSaid : Prop := tripStopsRow.holds Try.pinned (OpenSpec.ofChange tripStopsSpec)

/-- ITS FALSE NEIGHBOUR: 'it returns false'. Refute it at one input. -/
def tripStopsWrong : ChangeSpec := { name := "tripStops", fn := fun _ => fun
  | [d1, d2, d3, d4, d5] => { results := [.lit (.bool false)], args := [d1, d2, d3, d4, d5] }
  | _ => none }
def TripStopsWrongFalsely : Prop := tripStopsRow.holds Try.pinned (OpenSpec.ofChange tripStopsWrong)

/- THE SECOND FORM. 'bulk': how many values and letters a reading holds, each counted each time it is reached (what is shared counts as often as it is met; a slice's spare places count too). A statement '..UptoSaid' is the law's where the arguments, and the package variables that the reading takes, are together of bulk at most 1048576: NARROWER than '..Said'. Prove '..Said' where nothing that the law and all that it calls make is longer than what came in: it says more and counts as full. Else prove '..UptoSaid'. A law counts once. -/
mutual
def uptoBulk {H : Type} : DataW H → Nat
  | .lit (.string bytes) => bytes.length + 1
  | .lit _ => 1
  | .nil => 1
  | .ptr d => uptoBulk d + 1
  | .slice elems spare => uptoBulkAll elems + uptoBulkAll spare + 1
  | .agg parts => uptoBulkAll parts + 1
  | .iface _ d => uptoBulk d + 1
  | .map entries => uptoBulkEntries entries + 1
  | .held _ => 1
def uptoBulkAll {H : Type} : List (DataW H) → Nat
  | [] => 0
  | d :: r => uptoBulk d + uptoBulkAll r
def uptoBulkEntries {H : Type} : List (Lit × DataW H) → Nat
  | [] => 0
  | x :: r => uptoBulkEntry x + uptoBulkEntries r
def uptoBulkEntry {H : Type} : Lit × DataW H → Nat
  | (.string bytes, d) => bytes.length + uptoBulk d + 1
  | (_, d) => uptoBulk d + 1
 end
def uptoSmall : (H : Type) → List (DataW H) → Bool := fun _ ds => decide (uptoBulkAll ds ≤ 1048576)
def OpenSpec.upto (s : _root_.Go.ChangeSpec) : _root_.Go.OpenSpec := { _root_.Go.OpenSpec.ofChange s with cond := some uptoSmall }

/-- 'saltdomelaw07.TripSteps', WHERE WHAT IT READS IS OF BULK AT MOST 1048576: true; the input reads as it did. -/
def tripStepsUptoRow : OpenClaim := { program := "ytfkokgjfpojeoaa", sum := "2c3b80c0c794d67852bb066c5dee1e4dd9dd5eb7892d121993e4b4b40d32cbab", func := "saltdome/saltdomelaw07.TripSteps", spec := "tripSteps", unfollowed := true, recurses := true, plainKeys := false, apart := false, narrowed := true }
def TripStepsUptoSaid : Prop := tripStepsUptoRow.holds Try.pinned (OpenSpec.upto tripStepsSpec)

/-- 'saltdomelaw07.TripRobust', WHERE WHAT IT READS IS OF BULK AT MOST 1048576: true; the input reads as it did. -/
def tripRobustUptoRow : OpenClaim := { program := "ytfkokgjfpojeoaa", sum := "2c3b80c0c794d67852bb066c5dee1e4dd9dd5eb7892d121993e4b4b40d32cbab", func := "saltdome/saltdomelaw07.TripRobust", spec := "tripRobust", unfollowed := true, recurses := true, plainKeys := false, apart := false, narrowed := true }
def TripRobustUptoSaid : Prop := tripRobustUptoRow.holds Try.pinned (OpenSpec.upto tripRobustSpec)

/-- 'saltdomelaw07.TripResponses', WHERE WHAT IT READS IS OF BULK AT MOST 1048576: true; the input reads as it did. -/
def tripResponsesUptoRow : OpenClaim := { program := "ytfkokgjfpojeoaa", sum := "2c3b80c0c794d67852bb066c5dee1e4dd9dd5eb7892d121993e4b4b40d32cbab", func := "saltdome/saltdomelaw07.TripResponses", spec := "tripResponses", unfollowed := true, recurses := true, plainKeys := false, apart := false, narrowed := true }
def TripResponsesUptoSaid : Prop := tripResponsesUptoRow.holds Try.pinned (OpenSpec.upto tripResponsesSpec)

/-- 'saltdomelaw07.TripSure', WHERE WHAT IT READS IS OF BULK AT MOST 1048576: true; the input reads as it did. -/
def tripSureUptoRow : OpenClaim := { program := "ytfkokgjfpojeoaa", sum := "2c3b80c0c794d67852bb066c5dee1e4dd9dd5eb7892d121993e4b4b40d32cbab", func := "saltdome/saltdomelaw07.TripSure", spec := "tripSure", unfollowed := true, recurses := true, plainKeys := false, apart := false, narrowed := true }
def TripSureUptoSaid : Prop := tripSureUptoRow.holds Try.pinned (OpenSpec.upto tripSureSpec)

/-- 'saltdomelaw07.TripMore', WHERE WHAT IT READS IS OF BULK AT MOST 1048576: true; the input reads as it did. -/
def tripMoreUptoRow : OpenClaim := { program := "ytfkokgjfpojeoaa", sum := "2c3b80c0c794d67852bb066c5dee1e4dd9dd5eb7892d121993e4b4b40d32cbab", func := "saltdome/saltdomelaw07.TripMore", spec := "tripMore", unfollowed := true, recurses := true, plainKeys := false, apart := false, narrowed := true }
def TripMoreUptoSaid : Prop := tripMoreUptoRow.holds Try.pinned (OpenSpec.upto tripMoreSpec)

/-- 'saltdomelaw07.TripChecks', WHERE WHAT IT READS IS OF BULK AT MOST 1048576: true; the input reads as it did. -/
def tripChecksUptoRow : OpenClaim := { program := "ytfkokgjfpojeoaa", sum := "2c3b80c0c794d67852bb066c5dee1e4dd9dd5eb7892d121993e4b4b40d32cbab", func := "saltdome/saltdomelaw07.TripChecks", spec := "tripChecks", unfollowed := true, recurses := true, plainKeys := false, apart := false, narrowed := true }
def TripChecksUptoSaid : Prop := tripChecksUptoRow.holds Try.pinned (OpenSpec.upto tripChecksSpec)

/-- 'saltdomelaw07.TripReaches', WHERE WHAT IT READS IS OF BULK AT MOST 1048576: true; the input reads as it did. -/
def tripReachesUptoRow : OpenClaim := { program := "ytfkokgjfpojeoaa", sum := "2c3b80c0c794d67852bb066c5dee1e4dd9dd5eb7892d121993e4b4b40d32cbab", func := "saltdome/saltdomelaw07.TripReaches", spec := "tripReaches", unfollowed := true, recurses := true, plainKeys := false, apart := false, narrowed := true }
def TripReachesUptoSaid : Prop := tripReachesUptoRow.holds Try.pinned (OpenSpec.upto tripReachesSpec)

/-- 'saltdomelaw07.TripNever', WHERE WHAT IT READS IS OF BULK AT MOST 1048576: true; the input reads as it did. -/
def tripNeverUptoRow : OpenClaim := { program := "ytfkokgjfpojeoaa", sum := "2c3b80c0c794d67852bb066c5dee1e4dd9dd5eb7892d121993e4b4b40d32cbab", func := "saltdome/saltdomelaw07.TripNever", spec := "tripNever", unfollowed := true, recurses := true, plainKeys := false, apart := false, narrowed := true }
def TripNeverUptoSaid : Prop := tripNeverUptoRow.holds Try.pinned (OpenSpec.upto tripNeverSpec)

/-- 'saltdomelaw07.TripStops', WHERE WHAT IT READS IS OF BULK AT MOST 1048576: true; the input reads as it did. -/
def tripStopsUptoRow : OpenClaim := { program := "ytfkokgjfpojeoaa", sum := "2c3b80c0c794d67852bb066c5dee1e4dd9dd5eb7892d121993e4b4b40d32cbab", func := "saltdome/saltdomelaw07.TripStops", spec := "tripStops", unfollowed := true, recurses := true, plainKeys := false, apart := false, narrowed := true }
def TripStopsUptoSaid : Prop := tripStopsUptoRow.holds Try.pinned (OpenSpec.upto tripStopsSpec)

end Rows
end Go.Proofs.Ytfkokgjfpojeoaa
