/-
  DERIVED. GIVEN WITH THE SEED: THE CARDS: each row of YtcncggaobhbomaaGreatDoorRows.lean that lists a variable, with what it lists TIED to the program's text (the seventh form; the later family's looks); each row that meets fmt, with fmt's text TOLD by the authors' own Lean function (tested against real Go, not proved from fmt's source: count such statements apart). THE CARD IS WHAT COUNTS. Prove the row's statement (the work); the ties are given (YtcncggaobhbomaaGreatDoorTie.lean); close each card by the builder's one call (the guide's Derived/Test/ToyasCard.lean, 'card_holds'). Laid BY PROGRAM, IN A SANDBOX (cutbox-door.mjs). By AI agents, Wed Nov 11 2026. No macro, syntax, notation, axiom, sorry.
-/
import Derived.Test.YtcncggaobhbomaaGreatDoorRows
import GoSem.ClaimSeven
namespace Go.Proofs.YtcncggaobhbomaaGreatDoor
namespace Rows

/-- THE TIED CARD OF 'saltdomelaw04.WellWhys'. -/
def wellWhysCard : Claim7 := { stood := { row := wellWhysRow, standIns := [], harness := (true, "6fd1ae060c567321a4aae65f844d6a2854be61fc426d57c09e4bd106137f1ea4"), looks := false }, kinds := [], alts := [], laidByText := true, laidKinds := [.data, .data, .data], laidTests := true, laidLooks := .later }
def WellWhysCardSaid : Prop := Claim7.holds Tryz.pinned (.plain (OpenSpec.ofChange wellWhysSpec)) wellWhysCard

/-- THE TIED CARD OF 'saltdomelaw04.WellAdvises'. -/
def wellAdvisesCard : Claim7 := { stood := { row := wellAdvisesRow, standIns := [], harness := (true, "6fd1ae060c567321a4aae65f844d6a2854be61fc426d57c09e4bd106137f1ea4"), looks := false }, kinds := [], alts := [], laidByText := true, laidKinds := [.data, .data, .data], laidTests := true, laidLooks := .later }
def WellAdvisesCardSaid : Prop := Claim7.holds Tryz.pinned (.plain (OpenSpec.ofChange wellAdvisesSpec)) wellAdvisesCard

/-- THE TIED CARD OF 'saltdomelaw04.WellMore'. -/
def wellMoreCard : Claim7 := { stood := { row := wellMoreRow, standIns := [], harness := (true, "6fd1ae060c567321a4aae65f844d6a2854be61fc426d57c09e4bd106137f1ea4"), looks := false }, kinds := [], alts := [], laidByText := true, laidKinds := [.data, .data, .data], laidTests := true, laidLooks := .later }
def WellMoreCardSaid : Prop := Claim7.holds Tryz.pinned (.plain (OpenSpec.ofChange wellMoreSpec)) wellMoreCard

/-- THE TIED CARD OF 'saltdomelaw04.WellReasons'. -/
def wellReasonsCard : Claim7 := { stood := { row := wellReasonsRow, standIns := [], harness := (true, "6fd1ae060c567321a4aae65f844d6a2854be61fc426d57c09e4bd106137f1ea4"), looks := false }, kinds := [], alts := [], laidByText := true, laidKinds := [.data, .data, .data], laidTests := true, laidLooks := .later }
def WellReasonsCardSaid : Prop := Claim7.holds Tryz.pinned (.plain (OpenSpec.ofChange wellReasonsSpec)) wellReasonsCard

/-- THE TIED CARD OF 'saltdomelaw04.WellAdvised'. -/
def wellAdvisedCard : Claim7 := { stood := { row := wellAdvisedRow, standIns := [], harness := (true, "6fd1ae060c567321a4aae65f844d6a2854be61fc426d57c09e4bd106137f1ea4"), looks := false }, kinds := [], alts := [], laidByText := true, laidKinds := [.data, .data, .data], laidTests := true, laidLooks := .later }
def WellAdvisedCardSaid : Prop := Claim7.holds Tryz.pinned (.plain (OpenSpec.ofChange wellAdvisedSpec)) wellAdvisedCard

/-- THE TIED CARD OF 'saltdomelaw04.WellCheapest'. -/
def wellCheapestCard : Claim7 := { stood := { row := wellCheapestRow, standIns := [], harness := (true, "6fd1ae060c567321a4aae65f844d6a2854be61fc426d57c09e4bd106137f1ea4"), looks := false }, kinds := [], alts := [], laidByText := true, laidKinds := [.data, .data, .data], laidTests := true, laidLooks := .later }
def WellCheapestCardSaid : Prop := Claim7.holds Tryz.pinned (.plain (OpenSpec.ofChange wellCheapestSpec)) wellCheapestCard

/-- THE SECOND FORM's CARD OF 'saltdomelaw04.WellWhys'. -/
def wellWhysUptoCard : Claim7 := { stood := { row := wellWhysUptoRow, standIns := [], harness := (true, "6fd1ae060c567321a4aae65f844d6a2854be61fc426d57c09e4bd106137f1ea4"), looks := false }, kinds := [], alts := [], laidByText := true, laidKinds := [.data, .data, .data], laidTests := true, laidLooks := .later }
def WellWhysUptoCardSaid : Prop := Claim7.holds Tryz.pinned (.plain (OpenSpec.upto wellWhysSpec)) wellWhysUptoCard

/-- THE SECOND FORM's CARD OF 'saltdomelaw04.WellAdvises'. -/
def wellAdvisesUptoCard : Claim7 := { stood := { row := wellAdvisesUptoRow, standIns := [], harness := (true, "6fd1ae060c567321a4aae65f844d6a2854be61fc426d57c09e4bd106137f1ea4"), looks := false }, kinds := [], alts := [], laidByText := true, laidKinds := [.data, .data, .data], laidTests := true, laidLooks := .later }
def WellAdvisesUptoCardSaid : Prop := Claim7.holds Tryz.pinned (.plain (OpenSpec.upto wellAdvisesSpec)) wellAdvisesUptoCard

/-- THE SECOND FORM's CARD OF 'saltdomelaw04.WellMore'. -/
def wellMoreUptoCard : Claim7 := { stood := { row := wellMoreUptoRow, standIns := [], harness := (true, "6fd1ae060c567321a4aae65f844d6a2854be61fc426d57c09e4bd106137f1ea4"), looks := false }, kinds := [], alts := [], laidByText := true, laidKinds := [.data, .data, .data], laidTests := true, laidLooks := .later }
def WellMoreUptoCardSaid : Prop := Claim7.holds Tryz.pinned (.plain (OpenSpec.upto wellMoreSpec)) wellMoreUptoCard

/-- THE SECOND FORM's CARD OF 'saltdomelaw04.WellReasons'. -/
def wellReasonsUptoCard : Claim7 := { stood := { row := wellReasonsUptoRow, standIns := [], harness := (true, "6fd1ae060c567321a4aae65f844d6a2854be61fc426d57c09e4bd106137f1ea4"), looks := false }, kinds := [], alts := [], laidByText := true, laidKinds := [.data, .data, .data], laidTests := true, laidLooks := .later }
def WellReasonsUptoCardSaid : Prop := Claim7.holds Tryz.pinned (.plain (OpenSpec.upto wellReasonsSpec)) wellReasonsUptoCard

/-- THE SECOND FORM's CARD OF 'saltdomelaw04.WellAdvised'. -/
def wellAdvisedUptoCard : Claim7 := { stood := { row := wellAdvisedUptoRow, standIns := [], harness := (true, "6fd1ae060c567321a4aae65f844d6a2854be61fc426d57c09e4bd106137f1ea4"), looks := false }, kinds := [], alts := [], laidByText := true, laidKinds := [.data, .data, .data], laidTests := true, laidLooks := .later }
def WellAdvisedUptoCardSaid : Prop := Claim7.holds Tryz.pinned (.plain (OpenSpec.upto wellAdvisedSpec)) wellAdvisedUptoCard

/-- THE SECOND FORM's CARD OF 'saltdomelaw04.WellCheapest'. -/
def wellCheapestUptoCard : Claim7 := { stood := { row := wellCheapestUptoRow, standIns := [], harness := (true, "6fd1ae060c567321a4aae65f844d6a2854be61fc426d57c09e4bd106137f1ea4"), looks := false }, kinds := [], alts := [], laidByText := true, laidKinds := [.data, .data, .data], laidTests := true, laidLooks := .later }
def WellCheapestUptoCardSaid : Prop := Claim7.holds Tryz.pinned (.plain (OpenSpec.upto wellCheapestSpec)) wellCheapestUptoCard
end Rows
end Go.Proofs.YtcncggaobhbomaaGreatDoor
