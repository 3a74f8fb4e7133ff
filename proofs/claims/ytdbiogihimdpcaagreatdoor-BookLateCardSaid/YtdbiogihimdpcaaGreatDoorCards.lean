/-
  DERIVED. GIVEN WITH THE SEED: THE CARDS: each row of YtdbiogihimdpcaaGreatDoorRows.lean that lists a variable, with what it lists TIED to the program's text (the seventh form; the later family's looks); each row that meets fmt, with fmt's text TOLD by the authors' own Lean function (tested against real Go, not proved from fmt's source: count such statements apart). THE CARD IS WHAT COUNTS. Prove the row's statement (the work); the ties are given (YtdbiogihimdpcaaGreatDoorTie.lean); close each card by the builder's one call (the guide's Derived/Test/ToyasCard.lean, 'card_holds'). Laid BY PROGRAM, IN A SANDBOX (cutbox-door.mjs). By AI agents, Wed Nov 11 2026. No macro, syntax, notation, axiom, sorry.
-/
import Derived.Test.YtdbiogihimdpcaaGreatDoorRows
import GoSem.ClaimSeven
namespace Go.Proofs.YtdbiogihimdpcaaGreatDoor
namespace Rows

/-- THE TIED CARD OF 'saltdomelaw06.BookGrants'. -/
def bookGrantsCard : Claim7 := { stood := { row := bookGrantsRow, standIns := [], harness := (true, "e0f3d7b89c28040518d764346e53f9dbc56316654ba417706fc713f420f111b6"), looks := false }, kinds := [], alts := [], laidByText := true, laidKinds := [.data, .data, .data], laidTests := true, laidLooks := .later }
def BookGrantsCardSaid : Prop := Claim7.holds Tryz.pinned (.plain (OpenSpec.ofChange bookGrantsSpec)) bookGrantsCard

/-- THE TIED CARD OF 'saltdomelaw06.BookFirm'. -/
def bookFirmCard : Claim7 := { stood := { row := bookFirmRow, standIns := [], harness := (true, "e0f3d7b89c28040518d764346e53f9dbc56316654ba417706fc713f420f111b6"), looks := false }, kinds := [], alts := [], laidByText := true, laidKinds := [.data, .data, .data], laidTests := true, laidLooks := .later }
def BookFirmCardSaid : Prop := Claim7.holds Tryz.pinned (.plain (OpenSpec.ofChange bookFirmSpec)) bookFirmCard

/-- THE TIED CARD OF 'saltdomelaw06.BookCloses'. -/
def bookClosesCard : Claim7 := { stood := { row := bookClosesRow, standIns := [], harness := (true, "e0f3d7b89c28040518d764346e53f9dbc56316654ba417706fc713f420f111b6"), looks := false }, kinds := [], alts := [], laidByText := true, laidKinds := [.data, .data, .data], laidTests := true, laidLooks := .later }
def BookClosesCardSaid : Prop := Claim7.holds Tryz.pinned (.plain (OpenSpec.ofChange bookClosesSpec)) bookClosesCard

/-- THE TIED CARD OF 'saltdomelaw06.BookKept'. -/
def bookKeptCard : Claim7 := { stood := { row := bookKeptRow, standIns := [], harness := (true, "e0f3d7b89c28040518d764346e53f9dbc56316654ba417706fc713f420f111b6"), looks := false }, kinds := [], alts := [], laidByText := true, laidKinds := [.data, .data, .data], laidTests := true, laidLooks := .later }
def BookKeptCardSaid : Prop := Claim7.holds Tryz.pinned (.plain (OpenSpec.ofChange bookKeptSpec)) bookKeptCard

/-- THE TIED CARD OF 'saltdomelaw06.BookLate'. -/
def bookLateCard : Claim7 := { stood := { row := bookLateRow, standIns := [], harness := (true, "e0f3d7b89c28040518d764346e53f9dbc56316654ba417706fc713f420f111b6"), looks := false }, kinds := [], alts := [], laidByText := true, laidKinds := [.data, .data, .data], laidTests := true, laidLooks := .later }
def BookLateCardSaid : Prop := Claim7.holds Tryz.pinned (.plain (OpenSpec.ofChange bookLateSpec)) bookLateCard

/-- THE TIED CARD OF 'saltdomelaw06.BookChecks'. -/
def bookChecksCard : Claim7 := { stood := { row := bookChecksRow, standIns := [], harness := (true, "e0f3d7b89c28040518d764346e53f9dbc56316654ba417706fc713f420f111b6"), looks := false }, kinds := [], alts := [], laidByText := true, laidKinds := [.data, .data, .data], laidTests := true, laidLooks := .later }
def BookChecksCardSaid : Prop := Claim7.holds Tryz.pinned (.plain (OpenSpec.ofChange bookChecksSpec)) bookChecksCard

/-- THE TIED CARD OF 'saltdomelaw06.BookRuns'. -/
def bookRunsCard : Claim7 := { stood := { row := bookRunsRow, standIns := [], harness := (true, "e0f3d7b89c28040518d764346e53f9dbc56316654ba417706fc713f420f111b6"), looks := false }, kinds := [], alts := [], laidByText := true, laidKinds := [.data, .data, .data], laidTests := true, laidLooks := .later }
def BookRunsCardSaid : Prop := Claim7.holds Tryz.pinned (.plain (OpenSpec.ofChange bookRunsSpec)) bookRunsCard

/-- THE TIED CARD OF 'saltdomelaw06.BookCounts'. -/
def bookCountsCard : Claim7 := { stood := { row := bookCountsRow, standIns := [], harness := (true, "e0f3d7b89c28040518d764346e53f9dbc56316654ba417706fc713f420f111b6"), looks := false }, kinds := [], alts := [], laidByText := true, laidKinds := [.data, .data, .data], laidTests := true, laidLooks := .later }
def BookCountsCardSaid : Prop := Claim7.holds Tryz.pinned (.plain (OpenSpec.ofChange bookCountsSpec)) bookCountsCard

/-- THE TIED CARD OF 'saltdomelaw06.BookSteps'. -/
def bookStepsCard : Claim7 := { stood := { row := bookStepsRow, standIns := [], harness := (true, "e0f3d7b89c28040518d764346e53f9dbc56316654ba417706fc713f420f111b6"), looks := false }, kinds := [], alts := [], laidByText := true, laidKinds := [.data, .data, .data], laidTests := true, laidLooks := .later }
def BookStepsCardSaid : Prop := Claim7.holds Tryz.pinned (.plain (OpenSpec.ofChange bookStepsSpec)) bookStepsCard

/-- THE TIED CARD OF 'saltdomelaw06.BookOwns'. -/
def bookOwnsCard : Claim7 := { stood := { row := bookOwnsRow, standIns := [], harness := (true, "e0f3d7b89c28040518d764346e53f9dbc56316654ba417706fc713f420f111b6"), looks := false }, kinds := [], alts := [], laidByText := true, laidKinds := [.data, .data, .data], laidTests := true, laidLooks := .later }
def BookOwnsCardSaid : Prop := Claim7.holds Tryz.pinned (.plain (OpenSpec.ofChange bookOwnsSpec)) bookOwnsCard

/-- THE TIED CARD OF 'saltdomelaw06.BookFrees'. -/
def bookFreesCard : Claim7 := { stood := { row := bookFreesRow, standIns := [], harness := (true, "e0f3d7b89c28040518d764346e53f9dbc56316654ba417706fc713f420f111b6"), looks := false }, kinds := [], alts := [], laidByText := true, laidKinds := [.data, .data, .data], laidTests := true, laidLooks := .later }
def BookFreesCardSaid : Prop := Claim7.holds Tryz.pinned (.plain (OpenSpec.ofChange bookFreesSpec)) bookFreesCard

/-- THE SECOND FORM's CARD OF 'saltdomelaw06.BookGrants'. -/
def bookGrantsUptoCard : Claim7 := { stood := { row := bookGrantsUptoRow, standIns := [], harness := (true, "e0f3d7b89c28040518d764346e53f9dbc56316654ba417706fc713f420f111b6"), looks := false }, kinds := [], alts := [], laidByText := true, laidKinds := [.data, .data, .data], laidTests := true, laidLooks := .later }
def BookGrantsUptoCardSaid : Prop := Claim7.holds Tryz.pinned (.plain (OpenSpec.upto bookGrantsSpec)) bookGrantsUptoCard

/-- THE SECOND FORM's CARD OF 'saltdomelaw06.BookFirm'. -/
def bookFirmUptoCard : Claim7 := { stood := { row := bookFirmUptoRow, standIns := [], harness := (true, "e0f3d7b89c28040518d764346e53f9dbc56316654ba417706fc713f420f111b6"), looks := false }, kinds := [], alts := [], laidByText := true, laidKinds := [.data, .data, .data], laidTests := true, laidLooks := .later }
def BookFirmUptoCardSaid : Prop := Claim7.holds Tryz.pinned (.plain (OpenSpec.upto bookFirmSpec)) bookFirmUptoCard

/-- THE SECOND FORM's CARD OF 'saltdomelaw06.BookCloses'. -/
def bookClosesUptoCard : Claim7 := { stood := { row := bookClosesUptoRow, standIns := [], harness := (true, "e0f3d7b89c28040518d764346e53f9dbc56316654ba417706fc713f420f111b6"), looks := false }, kinds := [], alts := [], laidByText := true, laidKinds := [.data, .data, .data], laidTests := true, laidLooks := .later }
def BookClosesUptoCardSaid : Prop := Claim7.holds Tryz.pinned (.plain (OpenSpec.upto bookClosesSpec)) bookClosesUptoCard

/-- THE SECOND FORM's CARD OF 'saltdomelaw06.BookKept'. -/
def bookKeptUptoCard : Claim7 := { stood := { row := bookKeptUptoRow, standIns := [], harness := (true, "e0f3d7b89c28040518d764346e53f9dbc56316654ba417706fc713f420f111b6"), looks := false }, kinds := [], alts := [], laidByText := true, laidKinds := [.data, .data, .data], laidTests := true, laidLooks := .later }
def BookKeptUptoCardSaid : Prop := Claim7.holds Tryz.pinned (.plain (OpenSpec.upto bookKeptSpec)) bookKeptUptoCard

/-- THE SECOND FORM's CARD OF 'saltdomelaw06.BookLate'. -/
def bookLateUptoCard : Claim7 := { stood := { row := bookLateUptoRow, standIns := [], harness := (true, "e0f3d7b89c28040518d764346e53f9dbc56316654ba417706fc713f420f111b6"), looks := false }, kinds := [], alts := [], laidByText := true, laidKinds := [.data, .data, .data], laidTests := true, laidLooks := .later }
def BookLateUptoCardSaid : Prop := Claim7.holds Tryz.pinned (.plain (OpenSpec.upto bookLateSpec)) bookLateUptoCard

/-- THE SECOND FORM's CARD OF 'saltdomelaw06.BookChecks'. -/
def bookChecksUptoCard : Claim7 := { stood := { row := bookChecksUptoRow, standIns := [], harness := (true, "e0f3d7b89c28040518d764346e53f9dbc56316654ba417706fc713f420f111b6"), looks := false }, kinds := [], alts := [], laidByText := true, laidKinds := [.data, .data, .data], laidTests := true, laidLooks := .later }
def BookChecksUptoCardSaid : Prop := Claim7.holds Tryz.pinned (.plain (OpenSpec.upto bookChecksSpec)) bookChecksUptoCard

/-- THE SECOND FORM's CARD OF 'saltdomelaw06.BookRuns'. -/
def bookRunsUptoCard : Claim7 := { stood := { row := bookRunsUptoRow, standIns := [], harness := (true, "e0f3d7b89c28040518d764346e53f9dbc56316654ba417706fc713f420f111b6"), looks := false }, kinds := [], alts := [], laidByText := true, laidKinds := [.data, .data, .data], laidTests := true, laidLooks := .later }
def BookRunsUptoCardSaid : Prop := Claim7.holds Tryz.pinned (.plain (OpenSpec.upto bookRunsSpec)) bookRunsUptoCard

/-- THE SECOND FORM's CARD OF 'saltdomelaw06.BookCounts'. -/
def bookCountsUptoCard : Claim7 := { stood := { row := bookCountsUptoRow, standIns := [], harness := (true, "e0f3d7b89c28040518d764346e53f9dbc56316654ba417706fc713f420f111b6"), looks := false }, kinds := [], alts := [], laidByText := true, laidKinds := [.data, .data, .data], laidTests := true, laidLooks := .later }
def BookCountsUptoCardSaid : Prop := Claim7.holds Tryz.pinned (.plain (OpenSpec.upto bookCountsSpec)) bookCountsUptoCard

/-- THE SECOND FORM's CARD OF 'saltdomelaw06.BookSteps'. -/
def bookStepsUptoCard : Claim7 := { stood := { row := bookStepsUptoRow, standIns := [], harness := (true, "e0f3d7b89c28040518d764346e53f9dbc56316654ba417706fc713f420f111b6"), looks := false }, kinds := [], alts := [], laidByText := true, laidKinds := [.data, .data, .data], laidTests := true, laidLooks := .later }
def BookStepsUptoCardSaid : Prop := Claim7.holds Tryz.pinned (.plain (OpenSpec.upto bookStepsSpec)) bookStepsUptoCard

/-- THE SECOND FORM's CARD OF 'saltdomelaw06.BookOwns'. -/
def bookOwnsUptoCard : Claim7 := { stood := { row := bookOwnsUptoRow, standIns := [], harness := (true, "e0f3d7b89c28040518d764346e53f9dbc56316654ba417706fc713f420f111b6"), looks := false }, kinds := [], alts := [], laidByText := true, laidKinds := [.data, .data, .data], laidTests := true, laidLooks := .later }
def BookOwnsUptoCardSaid : Prop := Claim7.holds Tryz.pinned (.plain (OpenSpec.upto bookOwnsSpec)) bookOwnsUptoCard

/-- THE SECOND FORM's CARD OF 'saltdomelaw06.BookFrees'. -/
def bookFreesUptoCard : Claim7 := { stood := { row := bookFreesUptoRow, standIns := [], harness := (true, "e0f3d7b89c28040518d764346e53f9dbc56316654ba417706fc713f420f111b6"), looks := false }, kinds := [], alts := [], laidByText := true, laidKinds := [.data, .data, .data], laidTests := true, laidLooks := .later }
def BookFreesUptoCardSaid : Prop := Claim7.holds Tryz.pinned (.plain (OpenSpec.upto bookFreesSpec)) bookFreesUptoCard
end Rows
end Go.Proofs.YtdbiogihimdpcaaGreatDoor
