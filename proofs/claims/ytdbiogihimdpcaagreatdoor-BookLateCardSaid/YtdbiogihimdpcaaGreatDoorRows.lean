/-
  NARROWER THAN 'FOR EVERY INPUT', by the rows' own cells (each row's printed sentence says how): BookGrants: laid · BookFirm: laid · BookCloses: laid · BookKept: laid · BookLate: laid · BookChecks: laid · BookRuns: laid · BookCounts: laid · BookSteps: laid · BookOwns: laid · BookFrees: laid.
  DERIVED. THE GIVEN ROWS OF THIS SEAT. 11 by the template 'for every input the law returns true; each argument reads behind the call as it read before'; 0 by the template 'total and deterministic' (their statements: YtdbiogihimdpcaaGreatDoorTotals.lean).
  GIVEN WITH THE SEED: the statements are not yours to turn. If you find one false, say at which input.
  Laid BY PROGRAM, IN A SANDBOX (cutbox-rows.mjs): the forced cells as the released guide's own fill.sh prints them over the translation fc785bc4ef099a48… (all of the seat's roots in one cut). By AI agents, Wed Nov 11 2026. No macro, syntax, notation, axiom, sorry.
-/
import Derived.Test.YtdbiogihimdpcaaGreatDoorChecked
import GoSem.Claim
import GoSem.ClaimJoined
import GoSem.ClaimMapViews
import Derived.JoinedTies
import Derived.KernelRfl
namespace Go.Proofs.YtdbiogihimdpcaaGreatDoor
/- THE CELL 'sum', in the pinned program and in every row, IS THE sha256 OF THE DUMP (.gsa) THAT YtdbiogihimdpcaaGreatDoorProg.lean LOADS. Nothing in Lean hashes anything: it is a label: what it is worth is what the hold of that sum in a sandbox is worth. -/
noncomputable def Tryz.pinned : Pinned := { name := "ytdbiogihimdpcaagreatdoor", sum := "fc785bc4ef099a486d145341aafe2cdc8f7644858965f261ad1fe2d3025dcfd2", checked := Tryz.checked }
namespace Rows
def none {H : Type} : Left H := { results := [], args := [] }

/- WHAT THE LISTED PACKAGE-LEVEL VARIABLES READ AS WHEN THE CALL BEGINS. Each datum BY PROGRAM (the guide's laid-datum.mjs) off the statement by which the dump's own 'gosem.cut.vars' lays the variable. In a bare row this is a premise. The card (YtdbiogihimdpcaaGreatDoorCards.lean) ties it to the program's text. -/
def laid_math_bits_deBruijn32tab {H : Type} : DataW H := .agg [.lit (.int .u8 0), .lit (.int .u8 1), .lit (.int .u8 28), .lit (.int .u8 2), .lit (.int .u8 29), .lit (.int .u8 14), .lit (.int .u8 24), .lit (.int .u8 3), .lit (.int .u8 30), .lit (.int .u8 22), .lit (.int .u8 20), .lit (.int .u8 15), .lit (.int .u8 25), .lit (.int .u8 17), .lit (.int .u8 4), .lit (.int .u8 8), .lit (.int .u8 31), .lit (.int .u8 27), .lit (.int .u8 13), .lit (.int .u8 23), .lit (.int .u8 21), .lit (.int .u8 19), .lit (.int .u8 16), .lit (.int .u8 7), .lit (.int .u8 26), .lit (.int .u8 12), .lit (.int .u8 18), .lit (.int .u8 6), .lit (.int .u8 11), .lit (.int .u8 5), .lit (.int .u8 10), .lit (.int .u8 9)]
def laid_math_bits_deBruijn64tab {H : Type} : DataW H := .agg [.lit (.int .u8 0), .lit (.int .u8 1), .lit (.int .u8 56), .lit (.int .u8 2), .lit (.int .u8 57), .lit (.int .u8 49), .lit (.int .u8 28), .lit (.int .u8 3), .lit (.int .u8 61), .lit (.int .u8 58), .lit (.int .u8 42), .lit (.int .u8 50), .lit (.int .u8 38), .lit (.int .u8 29), .lit (.int .u8 17), .lit (.int .u8 4), .lit (.int .u8 62), .lit (.int .u8 47), .lit (.int .u8 59), .lit (.int .u8 36), .lit (.int .u8 45), .lit (.int .u8 43), .lit (.int .u8 51), .lit (.int .u8 22), .lit (.int .u8 53), .lit (.int .u8 39), .lit (.int .u8 33), .lit (.int .u8 30), .lit (.int .u8 24), .lit (.int .u8 18), .lit (.int .u8 12), .lit (.int .u8 5), .lit (.int .u8 63), .lit (.int .u8 55), .lit (.int .u8 48), .lit (.int .u8 27), .lit (.int .u8 60), .lit (.int .u8 41), .lit (.int .u8 37), .lit (.int .u8 16), .lit (.int .u8 46), .lit (.int .u8 35), .lit (.int .u8 44), .lit (.int .u8 21), .lit (.int .u8 52), .lit (.int .u8 32), .lit (.int .u8 23), .lit (.int .u8 11), .lit (.int .u8 54), .lit (.int .u8 26), .lit (.int .u8 40), .lit (.int .u8 15), .lit (.int .u8 34), .lit (.int .u8 20), .lit (.int .u8 31), .lit (.int .u8 10), .lit (.int .u8 25), .lit (.int .u8 14), .lit (.int .u8 19), .lit (.int .u8 9), .lit (.int .u8 13), .lit (.int .u8 8), .lit (.int .u8 7), .lit (.int .u8 6)]
def laid_internal_strconv_uint64pow10 {H : Type} : DataW H := .agg [.lit (.int .u64 1), .lit (.int .u64 10), .lit (.int .u64 100), .lit (.int .u64 1000), .lit (.int .u64 10000), .lit (.int .u64 100000), .lit (.int .u64 1000000), .lit (.int .u64 10000000), .lit (.int .u64 100000000), .lit (.int .u64 1000000000), .lit (.int .u64 10000000000), .lit (.int .u64 100000000000), .lit (.int .u64 1000000000000), .lit (.int .u64 10000000000000), .lit (.int .u64 100000000000000), .lit (.int .u64 1000000000000000), .lit (.int .u64 10000000000000000), .lit (.int .u64 100000000000000000), .lit (.int .u64 1000000000000000000), .lit (.int .u64 10000000000000000000)]

/-- 'saltdomelaw06.BookGrants': WHATEVER THE INPUT: true; the input reads as it did. -/
def bookGrantsSpec : ChangeSpec := { name := "bookGrants", fn := fun _ => fun
  | [d1, d2, d3, d4] => { results := [.lit (.bool true)], args := [d1, d2, d3, d4] }
  | _ => none }
def bookGrantsRow : OpenClaim := { program := "ytdbiogihimdpcaagreatdoor", sum := "fc785bc4ef099a486d145341aafe2cdc8f7644858965f261ad1fe2d3025dcfd2", func := "saltdome/saltdomelaw06.BookGrants", spec := "bookGrants", inPlace := ["internal/abi.NoEscape", "internal/bytealg.MakeNoZero"], unfollowed := true, recurses := true, named := ["internal/strconv.uint64pow10", "math/bits.deBruijn32tab", "math/bits.deBruijn64tab"], apart := false, laid := [("math/bits.deBruijn32tab", laid_math_bits_deBruijn32tab), ("math/bits.deBruijn64tab", laid_math_bits_deBruijn64tab), ("internal/strconv.uint64pow10", laid_internal_strconv_uint64pow10)] }
def BookGrantsSaid : Prop := bookGrantsRow.holds Tryz.pinned (OpenSpec.ofChange bookGrantsSpec)

/-- ITS FALSE NEIGHBOUR: 'it returns false'. Refute it at one input. -/
def bookGrantsWrong : ChangeSpec := { name := "bookGrants", fn := fun _ => fun
  | [d1, d2, d3, d4] => { results := [.lit (.bool false)], args := [d1, d2, d3, d4] }
  | _ => none }
def BookGrantsWrongFalsely : Prop := bookGrantsRow.holds Tryz.pinned (OpenSpec.ofChange bookGrantsWrong)

/-- 'saltdomelaw06.BookFirm': WHATEVER THE INPUT: true; the input reads as it did. -/
def bookFirmSpec : ChangeSpec := { name := "bookFirm", fn := fun _ => fun
  | [d1, d2, d3, d4, d5] => { results := [.lit (.bool true)], args := [d1, d2, d3, d4, d5] }
  | _ => none }
def bookFirmRow : OpenClaim := { program := "ytdbiogihimdpcaagreatdoor", sum := "fc785bc4ef099a486d145341aafe2cdc8f7644858965f261ad1fe2d3025dcfd2", func := "saltdome/saltdomelaw06.BookFirm", spec := "bookFirm", inPlace := ["internal/abi.NoEscape", "internal/bytealg.MakeNoZero"], unfollowed := true, recurses := true, named := ["internal/strconv.uint64pow10", "math/bits.deBruijn32tab", "math/bits.deBruijn64tab"], apart := false, laid := [("math/bits.deBruijn32tab", laid_math_bits_deBruijn32tab), ("math/bits.deBruijn64tab", laid_math_bits_deBruijn64tab), ("internal/strconv.uint64pow10", laid_internal_strconv_uint64pow10)] }
def BookFirmSaid : Prop := bookFirmRow.holds Tryz.pinned (OpenSpec.ofChange bookFirmSpec)

/-- ITS FALSE NEIGHBOUR: 'it returns false'. Refute it at one input. -/
def bookFirmWrong : ChangeSpec := { name := "bookFirm", fn := fun _ => fun
  | [d1, d2, d3, d4, d5] => { results := [.lit (.bool false)], args := [d1, d2, d3, d4, d5] }
  | _ => none }
def BookFirmWrongFalsely : Prop := bookFirmRow.holds Tryz.pinned (OpenSpec.ofChange bookFirmWrong)

/-- 'saltdomelaw06.BookCloses': WHATEVER THE INPUT: true; the input reads as it did. -/
def bookClosesSpec : ChangeSpec := { name := "bookCloses", fn := fun _ => fun
  | [d1, d2] => { results := [.lit (.bool true)], args := [d1, d2] }
  | _ => none }
def bookClosesRow : OpenClaim := { program := "ytdbiogihimdpcaagreatdoor", sum := "fc785bc4ef099a486d145341aafe2cdc8f7644858965f261ad1fe2d3025dcfd2", func := "saltdome/saltdomelaw06.BookCloses", spec := "bookCloses", inPlace := ["internal/abi.NoEscape", "internal/bytealg.MakeNoZero"], unfollowed := true, recurses := true, named := ["internal/strconv.uint64pow10", "math/bits.deBruijn32tab", "math/bits.deBruijn64tab"], apart := false, laid := [("math/bits.deBruijn32tab", laid_math_bits_deBruijn32tab), ("math/bits.deBruijn64tab", laid_math_bits_deBruijn64tab), ("internal/strconv.uint64pow10", laid_internal_strconv_uint64pow10)] }
def BookClosesSaid : Prop := bookClosesRow.holds Tryz.pinned (OpenSpec.ofChange bookClosesSpec)

/-- ITS FALSE NEIGHBOUR: 'it returns false'. Refute it at one input. -/
def bookClosesWrong : ChangeSpec := { name := "bookCloses", fn := fun _ => fun
  | [d1, d2] => { results := [.lit (.bool false)], args := [d1, d2] }
  | _ => none }
def BookClosesWrongFalsely : Prop := bookClosesRow.holds Tryz.pinned (OpenSpec.ofChange bookClosesWrong)

/-- 'saltdomelaw06.BookKept': WHATEVER THE INPUT: true; the input reads as it did. -/
def bookKeptSpec : ChangeSpec := { name := "bookKept", fn := fun _ => fun
  | [d1, d2] => { results := [.lit (.bool true)], args := [d1, d2] }
  | _ => none }
def bookKeptRow : OpenClaim := { program := "ytdbiogihimdpcaagreatdoor", sum := "fc785bc4ef099a486d145341aafe2cdc8f7644858965f261ad1fe2d3025dcfd2", func := "saltdome/saltdomelaw06.BookKept", spec := "bookKept", inPlace := ["internal/abi.NoEscape", "internal/bytealg.MakeNoZero"], unfollowed := true, recurses := true, named := ["internal/strconv.uint64pow10", "math/bits.deBruijn32tab", "math/bits.deBruijn64tab"], apart := false, laid := [("math/bits.deBruijn32tab", laid_math_bits_deBruijn32tab), ("math/bits.deBruijn64tab", laid_math_bits_deBruijn64tab), ("internal/strconv.uint64pow10", laid_internal_strconv_uint64pow10)] }
def BookKeptSaid : Prop := bookKeptRow.holds Tryz.pinned (OpenSpec.ofChange bookKeptSpec)

/-- ITS FALSE NEIGHBOUR: 'it returns false'. Refute it at one input. -/
def bookKeptWrong : ChangeSpec := { name := "bookKept", fn := fun _ => fun
  | [d1, d2] => { results := [.lit (.bool false)], args := [d1, d2] }
  | _ => none }
def BookKeptWrongFalsely : Prop := bookKeptRow.holds Tryz.pinned (OpenSpec.ofChange bookKeptWrong)

/-- 'saltdomelaw06.BookLate': WHATEVER THE INPUT: true; the input reads as it did. -/
def bookLateSpec : ChangeSpec := { name := "bookLate", fn := fun _ => fun
  | [d1, d2, d3, d4] => { results := [.lit (.bool true)], args := [d1, d2, d3, d4] }
  | _ => none }
def bookLateRow : OpenClaim := { program := "ytdbiogihimdpcaagreatdoor", sum := "fc785bc4ef099a486d145341aafe2cdc8f7644858965f261ad1fe2d3025dcfd2", func := "saltdome/saltdomelaw06.BookLate", spec := "bookLate", inPlace := ["internal/abi.NoEscape", "internal/bytealg.MakeNoZero"], unfollowed := true, recurses := true, named := ["internal/strconv.uint64pow10", "math/bits.deBruijn32tab", "math/bits.deBruijn64tab"], apart := false, laid := [("math/bits.deBruijn32tab", laid_math_bits_deBruijn32tab), ("math/bits.deBruijn64tab", laid_math_bits_deBruijn64tab), ("internal/strconv.uint64pow10", laid_internal_strconv_uint64pow10)] }
def BookLateSaid : Prop := bookLateRow.holds Tryz.pinned (OpenSpec.ofChange bookLateSpec)

/-- ITS FALSE NEIGHBOUR: 'it returns false'. Refute it at one input. -/
def bookLateWrong : ChangeSpec := { name := "bookLate", fn := fun _ => fun
  | [d1, d2, d3, d4] => { results := [.lit (.bool false)], args := [d1, d2, d3, d4] }
  | _ => none }
def BookLateWrongFalsely : Prop := bookLateRow.holds Tryz.pinned (OpenSpec.ofChange bookLateWrong)

/-- 'saltdomelaw06.BookChecks': WHATEVER THE INPUT: true; the input reads as it did. -/
def bookChecksSpec : ChangeSpec := { name := "bookChecks", fn := fun _ => fun
  | [d1, d2] => { results := [.lit (.bool true)], args := [d1, d2] }
  | _ => none }
def bookChecksRow : OpenClaim := { program := "ytdbiogihimdpcaagreatdoor", sum := "fc785bc4ef099a486d145341aafe2cdc8f7644858965f261ad1fe2d3025dcfd2", func := "saltdome/saltdomelaw06.BookChecks", spec := "bookChecks", inPlace := ["internal/abi.NoEscape", "internal/bytealg.MakeNoZero"], unfollowed := true, recurses := true, named := ["internal/strconv.uint64pow10", "math/bits.deBruijn32tab", "math/bits.deBruijn64tab"], apart := false, laid := [("math/bits.deBruijn32tab", laid_math_bits_deBruijn32tab), ("math/bits.deBruijn64tab", laid_math_bits_deBruijn64tab), ("internal/strconv.uint64pow10", laid_internal_strconv_uint64pow10)] }
def BookChecksSaid : Prop := bookChecksRow.holds Tryz.pinned (OpenSpec.ofChange bookChecksSpec)

/-- ITS FALSE NEIGHBOUR: 'it returns false'. Refute it at one input. -/
def bookChecksWrong : ChangeSpec := { name := "bookChecks", fn := fun _ => fun
  | [d1, d2] => { results := [.lit (.bool false)], args := [d1, d2] }
  | _ => none }
def BookChecksWrongFalsely : Prop := bookChecksRow.holds Tryz.pinned (OpenSpec.ofChange bookChecksWrong)

/-- 'saltdomelaw06.BookRuns': WHATEVER THE INPUT: true; the input reads as it did. -/
def bookRunsSpec : ChangeSpec := { name := "bookRuns", fn := fun _ => fun
  | [d1, d2] => { results := [.lit (.bool true)], args := [d1, d2] }
  | _ => none }
def bookRunsRow : OpenClaim := { program := "ytdbiogihimdpcaagreatdoor", sum := "fc785bc4ef099a486d145341aafe2cdc8f7644858965f261ad1fe2d3025dcfd2", func := "saltdome/saltdomelaw06.BookRuns", spec := "bookRuns", inPlace := ["internal/abi.NoEscape", "internal/bytealg.MakeNoZero"], unfollowed := true, recurses := true, named := ["internal/strconv.uint64pow10", "math/bits.deBruijn32tab", "math/bits.deBruijn64tab"], apart := false, laid := [("math/bits.deBruijn32tab", laid_math_bits_deBruijn32tab), ("math/bits.deBruijn64tab", laid_math_bits_deBruijn64tab), ("internal/strconv.uint64pow10", laid_internal_strconv_uint64pow10)] }
def BookRunsSaid : Prop := bookRunsRow.holds Tryz.pinned (OpenSpec.ofChange bookRunsSpec)

/-- ITS FALSE NEIGHBOUR: 'it returns false'. Refute it at one input. -/
def bookRunsWrong : ChangeSpec := { name := "bookRuns", fn := fun _ => fun
  | [d1, d2] => { results := [.lit (.bool false)], args := [d1, d2] }
  | _ => none }
def BookRunsWrongFalsely : Prop := bookRunsRow.holds Tryz.pinned (OpenSpec.ofChange bookRunsWrong)

/-- 'saltdomelaw06.BookCounts': WHATEVER THE INPUT: true; the input reads as it did. -/
def bookCountsSpec : ChangeSpec := { name := "bookCounts", fn := fun _ => fun
  | [d1, d2, d3, d4] => { results := [.lit (.bool true)], args := [d1, d2, d3, d4] }
  | _ => none }
def bookCountsRow : OpenClaim := { program := "ytdbiogihimdpcaagreatdoor", sum := "fc785bc4ef099a486d145341aafe2cdc8f7644858965f261ad1fe2d3025dcfd2", func := "saltdome/saltdomelaw06.BookCounts", spec := "bookCounts", inPlace := ["internal/abi.NoEscape", "internal/bytealg.MakeNoZero"], unfollowed := true, recurses := true, named := ["internal/strconv.uint64pow10", "math/bits.deBruijn32tab", "math/bits.deBruijn64tab"], apart := false, laid := [("math/bits.deBruijn32tab", laid_math_bits_deBruijn32tab), ("math/bits.deBruijn64tab", laid_math_bits_deBruijn64tab), ("internal/strconv.uint64pow10", laid_internal_strconv_uint64pow10)] }
def BookCountsSaid : Prop := bookCountsRow.holds Tryz.pinned (OpenSpec.ofChange bookCountsSpec)

/-- ITS FALSE NEIGHBOUR: 'it returns false'. Refute it at one input. -/
def bookCountsWrong : ChangeSpec := { name := "bookCounts", fn := fun _ => fun
  | [d1, d2, d3, d4] => { results := [.lit (.bool false)], args := [d1, d2, d3, d4] }
  | _ => none }
def BookCountsWrongFalsely : Prop := bookCountsRow.holds Tryz.pinned (OpenSpec.ofChange bookCountsWrong)

/-- 'saltdomelaw06.BookSteps': WHATEVER THE INPUT: true; the input reads as it did. -/
def bookStepsSpec : ChangeSpec := { name := "bookSteps", fn := fun _ => fun
  | [d1, d2, d3] => { results := [.lit (.bool true)], args := [d1, d2, d3] }
  | _ => none }
def bookStepsRow : OpenClaim := { program := "ytdbiogihimdpcaagreatdoor", sum := "fc785bc4ef099a486d145341aafe2cdc8f7644858965f261ad1fe2d3025dcfd2", func := "saltdome/saltdomelaw06.BookSteps", spec := "bookSteps", inPlace := ["internal/abi.NoEscape", "internal/bytealg.MakeNoZero"], unfollowed := true, recurses := true, named := ["internal/strconv.uint64pow10", "math/bits.deBruijn32tab", "math/bits.deBruijn64tab"], apart := false, laid := [("math/bits.deBruijn32tab", laid_math_bits_deBruijn32tab), ("math/bits.deBruijn64tab", laid_math_bits_deBruijn64tab), ("internal/strconv.uint64pow10", laid_internal_strconv_uint64pow10)] }
def BookStepsSaid : Prop := bookStepsRow.holds Tryz.pinned (OpenSpec.ofChange bookStepsSpec)

/-- ITS FALSE NEIGHBOUR: 'it returns false'. Refute it at one input. -/
def bookStepsWrong : ChangeSpec := { name := "bookSteps", fn := fun _ => fun
  | [d1, d2, d3] => { results := [.lit (.bool false)], args := [d1, d2, d3] }
  | _ => none }
def BookStepsWrongFalsely : Prop := bookStepsRow.holds Tryz.pinned (OpenSpec.ofChange bookStepsWrong)

/-- 'saltdomelaw06.BookOwns': WHATEVER THE INPUT: true; the input reads as it did. -/
def bookOwnsSpec : ChangeSpec := { name := "bookOwns", fn := fun _ => fun
  | [d1, d2, d3] => { results := [.lit (.bool true)], args := [d1, d2, d3] }
  | _ => none }
def bookOwnsRow : OpenClaim := { program := "ytdbiogihimdpcaagreatdoor", sum := "fc785bc4ef099a486d145341aafe2cdc8f7644858965f261ad1fe2d3025dcfd2", func := "saltdome/saltdomelaw06.BookOwns", spec := "bookOwns", inPlace := ["internal/abi.NoEscape", "internal/bytealg.MakeNoZero"], unfollowed := true, recurses := true, named := ["internal/strconv.uint64pow10", "math/bits.deBruijn32tab", "math/bits.deBruijn64tab"], apart := false, laid := [("math/bits.deBruijn32tab", laid_math_bits_deBruijn32tab), ("math/bits.deBruijn64tab", laid_math_bits_deBruijn64tab), ("internal/strconv.uint64pow10", laid_internal_strconv_uint64pow10)] }
def BookOwnsSaid : Prop := bookOwnsRow.holds Tryz.pinned (OpenSpec.ofChange bookOwnsSpec)

/-- ITS FALSE NEIGHBOUR: 'it returns false'. Refute it at one input. -/
def bookOwnsWrong : ChangeSpec := { name := "bookOwns", fn := fun _ => fun
  | [d1, d2, d3] => { results := [.lit (.bool false)], args := [d1, d2, d3] }
  | _ => none }
def BookOwnsWrongFalsely : Prop := bookOwnsRow.holds Tryz.pinned (OpenSpec.ofChange bookOwnsWrong)

/-- 'saltdomelaw06.BookFrees': WHATEVER THE INPUT: true; the input reads as it did. -/
def bookFreesSpec : ChangeSpec := { name := "bookFrees", fn := fun _ => fun
  | [d1, d2] => { results := [.lit (.bool true)], args := [d1, d2] }
  | _ => none }
def bookFreesRow : OpenClaim := { program := "ytdbiogihimdpcaagreatdoor", sum := "fc785bc4ef099a486d145341aafe2cdc8f7644858965f261ad1fe2d3025dcfd2", func := "saltdome/saltdomelaw06.BookFrees", spec := "bookFrees", inPlace := ["internal/abi.NoEscape", "internal/bytealg.MakeNoZero"], unfollowed := true, recurses := true, named := ["internal/strconv.uint64pow10", "math/bits.deBruijn32tab", "math/bits.deBruijn64tab"], apart := false, laid := [("math/bits.deBruijn32tab", laid_math_bits_deBruijn32tab), ("math/bits.deBruijn64tab", laid_math_bits_deBruijn64tab), ("internal/strconv.uint64pow10", laid_internal_strconv_uint64pow10)] }
def BookFreesSaid : Prop := bookFreesRow.holds Tryz.pinned (OpenSpec.ofChange bookFreesSpec)

/-- ITS FALSE NEIGHBOUR: 'it returns false'. Refute it at one input. -/
def bookFreesWrong : ChangeSpec := { name := "bookFrees", fn := fun _ => fun
  | [d1, d2] => { results := [.lit (.bool false)], args := [d1, d2] }
  | _ => none }
def BookFreesWrongFalsely : Prop := bookFreesRow.holds Tryz.pinned (OpenSpec.ofChange bookFreesWrong)

/- THE SECOND FORM. 'bulk': how many values and letters a reading holds, each counted each time it is reached (what is shared counts as often as it is met; a slice's spare places count too). A statement '..UptoSaid' is the law's where the arguments, and the package variables that the reading takes, are together of bulk at most 1048576: NARROWER than '..Said'. Prove '..Said' where nothing that the law and all that it calls make is longer than what came in: it says more and counts as full. Else prove '..UptoSaid'. A law counts once. -/
mutual
def uptoBulk {H : Type} : DataW H → Nat
  | .lit (.string bytes) => bytes.length + 1
  | .lit _ => 1
  | .nil => 1
  | .ptr d => uptoBulk d + 1
  | .slice elems spare => uptoBulkAll elems + uptoBulkAll spare + 1
  | .agg parts => uptoBulkAll parts + 1
  | .iface _ d => uptoBulk d + 1
  | .map entries => uptoBulkEntries entries + 1
  | .held _ => 1
def uptoBulkAll {H : Type} : List (DataW H) → Nat
  | [] => 0
  | d :: r => uptoBulk d + uptoBulkAll r
def uptoBulkEntries {H : Type} : List (Lit × DataW H) → Nat
  | [] => 0
  | x :: r => uptoBulkEntry x + uptoBulkEntries r
def uptoBulkEntry {H : Type} : Lit × DataW H → Nat
  | (.string bytes, d) => bytes.length + uptoBulk d + 1
  | (_, d) => uptoBulk d + 1
 end
def uptoSmall : (H : Type) → List (DataW H) → Bool := fun _ ds => decide (uptoBulkAll ds ≤ 1048576)
def OpenSpec.upto (s : _root_.Go.ChangeSpec) : _root_.Go.OpenSpec := { _root_.Go.OpenSpec.ofChange s with cond := some uptoSmall }

/-- 'saltdomelaw06.BookGrants', WHERE WHAT IT READS IS OF BULK AT MOST 1048576: true; the input reads as it did. -/
def bookGrantsUptoRow : OpenClaim := { program := "ytdbiogihimdpcaagreatdoor", sum := "fc785bc4ef099a486d145341aafe2cdc8f7644858965f261ad1fe2d3025dcfd2", func := "saltdome/saltdomelaw06.BookGrants", spec := "bookGrants", inPlace := ["internal/abi.NoEscape", "internal/bytealg.MakeNoZero"], unfollowed := true, recurses := true, named := ["internal/strconv.uint64pow10", "math/bits.deBruijn32tab", "math/bits.deBruijn64tab"], apart := false, laid := [("math/bits.deBruijn32tab", laid_math_bits_deBruijn32tab), ("math/bits.deBruijn64tab", laid_math_bits_deBruijn64tab), ("internal/strconv.uint64pow10", laid_internal_strconv_uint64pow10)], narrowed := true }
def BookGrantsUptoSaid : Prop := bookGrantsUptoRow.holds Tryz.pinned (OpenSpec.upto bookGrantsSpec)

/-- 'saltdomelaw06.BookFirm', WHERE WHAT IT READS IS OF BULK AT MOST 1048576: true; the input reads as it did. -/
def bookFirmUptoRow : OpenClaim := { program := "ytdbiogihimdpcaagreatdoor", sum := "fc785bc4ef099a486d145341aafe2cdc8f7644858965f261ad1fe2d3025dcfd2", func := "saltdome/saltdomelaw06.BookFirm", spec := "bookFirm", inPlace := ["internal/abi.NoEscape", "internal/bytealg.MakeNoZero"], unfollowed := true, recurses := true, named := ["internal/strconv.uint64pow10", "math/bits.deBruijn32tab", "math/bits.deBruijn64tab"], apart := false, laid := [("math/bits.deBruijn32tab", laid_math_bits_deBruijn32tab), ("math/bits.deBruijn64tab", laid_math_bits_deBruijn64tab), ("internal/strconv.uint64pow10", laid_internal_strconv_uint64pow10)], narrowed := true }
def BookFirmUptoSaid : Prop := bookFirmUptoRow.holds Tryz.pinned (OpenSpec.upto bookFirmSpec)

/-- 'saltdomelaw06.BookCloses', WHERE WHAT IT READS IS OF BULK AT MOST 1048576: true; the input reads as it did. -/
def bookClosesUptoRow : OpenClaim := { program := "ytdbiogihimdpcaagreatdoor", sum := "fc785bc4ef099a486d145341aafe2cdc8f7644858965f261ad1fe2d3025dcfd2", func := "saltdome/saltdomelaw06.BookCloses", spec := "bookCloses", inPlace := ["internal/abi.NoEscape", "internal/bytealg.MakeNoZero"], unfollowed := true, recurses := true, named := ["internal/strconv.uint64pow10", "math/bits.deBruijn32tab", "math/bits.deBruijn64tab"], apart := false, laid := [("math/bits.deBruijn32tab", laid_math_bits_deBruijn32tab), ("math/bits.deBruijn64tab", laid_math_bits_deBruijn64tab), ("internal/strconv.uint64pow10", laid_internal_strconv_uint64pow10)], narrowed := true }
def BookClosesUptoSaid : Prop := bookClosesUptoRow.holds Tryz.pinned (OpenSpec.upto bookClosesSpec)

/-- 'saltdomelaw06.BookKept', WHERE WHAT IT READS IS OF BULK AT MOST 1048576: true; the input reads as it did. -/
def bookKeptUptoRow : OpenClaim := { program := "ytdbiogihimdpcaagreatdoor", sum := "fc785bc4ef099a486d145341aafe2cdc8f7644858965f261ad1fe2d3025dcfd2", func := "saltdome/saltdomelaw06.BookKept", spec := "bookKept", inPlace := ["internal/abi.NoEscape", "internal/bytealg.MakeNoZero"], unfollowed := true, recurses := true, named := ["internal/strconv.uint64pow10", "math/bits.deBruijn32tab", "math/bits.deBruijn64tab"], apart := false, laid := [("math/bits.deBruijn32tab", laid_math_bits_deBruijn32tab), ("math/bits.deBruijn64tab", laid_math_bits_deBruijn64tab), ("internal/strconv.uint64pow10", laid_internal_strconv_uint64pow10)], narrowed := true }
def BookKeptUptoSaid : Prop := bookKeptUptoRow.holds Tryz.pinned (OpenSpec.upto bookKeptSpec)

/-- 'saltdomelaw06.BookLate', WHERE WHAT IT READS IS OF BULK AT MOST 1048576: true; the input reads as it did. -/
def bookLateUptoRow : OpenClaim := { program := "ytdbiogihimdpcaagreatdoor", sum := "fc785bc4ef099a486d145341aafe2cdc8f7644858965f261ad1fe2d3025dcfd2", func := "saltdome/saltdomelaw06.BookLate", spec := "bookLate", inPlace := ["internal/abi.NoEscape", "internal/bytealg.MakeNoZero"], unfollowed := true, recurses := true, named := ["internal/strconv.uint64pow10", "math/bits.deBruijn32tab", "math/bits.deBruijn64tab"], apart := false, laid := [("math/bits.deBruijn32tab", laid_math_bits_deBruijn32tab), ("math/bits.deBruijn64tab", laid_math_bits_deBruijn64tab), ("internal/strconv.uint64pow10", laid_internal_strconv_uint64pow10)], narrowed := true }
def BookLateUptoSaid : Prop := bookLateUptoRow.holds Tryz.pinned (OpenSpec.upto bookLateSpec)

/-- 'saltdomelaw06.BookChecks', WHERE WHAT IT READS IS OF BULK AT MOST 1048576: true; the input reads as it did. -/
def bookChecksUptoRow : OpenClaim := { program := "ytdbiogihimdpcaagreatdoor", sum := "fc785bc4ef099a486d145341aafe2cdc8f7644858965f261ad1fe2d3025dcfd2", func := "saltdome/saltdomelaw06.BookChecks", spec := "bookChecks", inPlace := ["internal/abi.NoEscape", "internal/bytealg.MakeNoZero"], unfollowed := true, recurses := true, named := ["internal/strconv.uint64pow10", "math/bits.deBruijn32tab", "math/bits.deBruijn64tab"], apart := false, laid := [("math/bits.deBruijn32tab", laid_math_bits_deBruijn32tab), ("math/bits.deBruijn64tab", laid_math_bits_deBruijn64tab), ("internal/strconv.uint64pow10", laid_internal_strconv_uint64pow10)], narrowed := true }
def BookChecksUptoSaid : Prop := bookChecksUptoRow.holds Tryz.pinned (OpenSpec.upto bookChecksSpec)

/-- 'saltdomelaw06.BookRuns', WHERE WHAT IT READS IS OF BULK AT MOST 1048576: true; the input reads as it did. -/
def bookRunsUptoRow : OpenClaim := { program := "ytdbiogihimdpcaagreatdoor", sum := "fc785bc4ef099a486d145341aafe2cdc8f7644858965f261ad1fe2d3025dcfd2", func := "saltdome/saltdomelaw06.BookRuns", spec := "bookRuns", inPlace := ["internal/abi.NoEscape", "internal/bytealg.MakeNoZero"], unfollowed := true, recurses := true, named := ["internal/strconv.uint64pow10", "math/bits.deBruijn32tab", "math/bits.deBruijn64tab"], apart := false, laid := [("math/bits.deBruijn32tab", laid_math_bits_deBruijn32tab), ("math/bits.deBruijn64tab", laid_math_bits_deBruijn64tab), ("internal/strconv.uint64pow10", laid_internal_strconv_uint64pow10)], narrowed := true }
def BookRunsUptoSaid : Prop := bookRunsUptoRow.holds Tryz.pinned (OpenSpec.upto bookRunsSpec)

/-- 'saltdomelaw06.BookCounts', WHERE WHAT IT READS IS OF BULK AT MOST 1048576: true; the input reads as it did. -/
def bookCountsUptoRow : OpenClaim := { program := "ytdbiogihimdpcaagreatdoor", sum := "fc785bc4ef099a486d145341aafe2cdc8f7644858965f261ad1fe2d3025dcfd2", func := "saltdome/saltdomelaw06.BookCounts", spec := "bookCounts", inPlace := ["internal/abi.NoEscape", "internal/bytealg.MakeNoZero"], unfollowed := true, recurses := true, named := ["internal/strconv.uint64pow10", "math/bits.deBruijn32tab", "math/bits.deBruijn64tab"], apart := false, laid := [("math/bits.deBruijn32tab", laid_math_bits_deBruijn32tab), ("math/bits.deBruijn64tab", laid_math_bits_deBruijn64tab), ("internal/strconv.uint64pow10", laid_internal_strconv_uint64pow10)], narrowed := true }
def BookCountsUptoSaid : Prop := bookCountsUptoRow.holds Tryz.pinned (OpenSpec.upto bookCountsSpec)

/-- 'saltdomelaw06.BookSteps', WHERE WHAT IT READS IS OF BULK AT MOST 1048576: true; the input reads as it did. -/
def bookStepsUptoRow : OpenClaim := { program := "ytdbiogihimdpcaagreatdoor", sum := "fc785bc4ef099a486d145341aafe2cdc8f7644858965f261ad1fe2d3025dcfd2", func := "saltdome/saltdomelaw06.BookSteps", spec := "bookSteps", inPlace := ["internal/abi.NoEscape", "internal/bytealg.MakeNoZero"], unfollowed := true, recurses := true, named := ["internal/strconv.uint64pow10", "math/bits.deBruijn32tab", "math/bits.deBruijn64tab"], apart := false, laid := [("math/bits.deBruijn32tab", laid_math_bits_deBruijn32tab), ("math/bits.deBruijn64tab", laid_math_bits_deBruijn64tab), ("internal/strconv.uint64pow10", laid_internal_strconv_uint64pow10)], narrowed := true }
def BookStepsUptoSaid : Prop := bookStepsUptoRow.holds Tryz.pinned (OpenSpec.upto bookStepsSpec)

/-- 'saltdomelaw06.BookOwns', WHERE WHAT IT READS IS OF BULK AT MOST 1048576: true; the input reads as it did. -/
def bookOwnsUptoRow : OpenClaim := { program := "ytdbiogihimdpcaagreatdoor", sum := "fc785bc4ef099a486d145341aafe2cdc8f7644858965f261ad1fe2d3025dcfd2", func := "saltdome/saltdomelaw06.BookOwns", spec := "bookOwns", inPlace := ["internal/abi.NoEscape", "internal/bytealg.MakeNoZero"], unfollowed := true, recurses := true, named := ["internal/strconv.uint64pow10", "math/bits.deBruijn32tab", "math/bits.deBruijn64tab"], apart := false, laid := [("math/bits.deBruijn32tab", laid_math_bits_deBruijn32tab), ("math/bits.deBruijn64tab", laid_math_bits_deBruijn64tab), ("internal/strconv.uint64pow10", laid_internal_strconv_uint64pow10)], narrowed := true }
def BookOwnsUptoSaid : Prop := bookOwnsUptoRow.holds Tryz.pinned (OpenSpec.upto bookOwnsSpec)

/-- 'saltdomelaw06.BookFrees', WHERE WHAT IT READS IS OF BULK AT MOST 1048576: true; the input reads as it did. -/
def bookFreesUptoRow : OpenClaim := { program := "ytdbiogihimdpcaagreatdoor", sum := "fc785bc4ef099a486d145341aafe2cdc8f7644858965f261ad1fe2d3025dcfd2", func := "saltdome/saltdomelaw06.BookFrees", spec := "bookFrees", inPlace := ["internal/abi.NoEscape", "internal/bytealg.MakeNoZero"], unfollowed := true, recurses := true, named := ["internal/strconv.uint64pow10", "math/bits.deBruijn32tab", "math/bits.deBruijn64tab"], apart := false, laid := [("math/bits.deBruijn32tab", laid_math_bits_deBruijn32tab), ("math/bits.deBruijn64tab", laid_math_bits_deBruijn64tab), ("internal/strconv.uint64pow10", laid_internal_strconv_uint64pow10)], narrowed := true }
def BookFreesUptoSaid : Prop := bookFreesUptoRow.holds Tryz.pinned (OpenSpec.upto bookFreesSpec)

end Rows
end Go.Proofs.YtdbiogihimdpcaaGreatDoor
