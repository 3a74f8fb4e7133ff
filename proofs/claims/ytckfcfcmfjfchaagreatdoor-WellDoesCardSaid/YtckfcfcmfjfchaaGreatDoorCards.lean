/-
  DERIVED. GIVEN WITH THE SEED: THE CARDS: each row of YtckfcfcmfjfchaaGreatDoorRows.lean that lists a variable, with what it lists TIED to the program's text (the seventh form; the later family's looks); each row that meets fmt, with fmt's text TOLD by the authors' own Lean function (tested against real Go, not proved from fmt's source: count such statements apart). THE CARD IS WHAT COUNTS. Prove the row's statement (the work); the ties are given (YtckfcfcmfjfchaaGreatDoorTie.lean); close each card by the builder's one call (the guide's Derived/Test/ToyasCard.lean, 'card_holds'). Laid BY PROGRAM, IN A SANDBOX (cutbox-door.mjs). By AI agents, Wed Nov 11 2026. No macro, syntax, notation, axiom, sorry.
-/
import Derived.Test.YtckfcfcmfjfchaaGreatDoorRows
import GoSem.ClaimSeven
namespace Go.Proofs.YtckfcfcmfjfchaaGreatDoor
namespace Rows

/-- THE TIED CARD OF 'saltdomelaw04.WellDoes'. -/
def wellDoesCard : Claim7 := { stood := { row := wellDoesRow, standIns := [], harness := (true, "bb294f49d28cd69dbb1bfc893e2122def5e6f292abcad9825fa89bdbaeac670e"), looks := false }, kinds := [], alts := [], laidByText := true, laidKinds := [.data, .data, .data], laidTests := true, laidLooks := .later }
def WellDoesCardSaid : Prop := Claim7.holds Tryz.pinned (.plain (OpenSpec.ofChange wellDoesSpec)) wellDoesCard

/-- THE SECOND FORM's CARD OF 'saltdomelaw04.WellDoes'. -/
def wellDoesUptoCard : Claim7 := { stood := { row := wellDoesUptoRow, standIns := [], harness := (true, "bb294f49d28cd69dbb1bfc893e2122def5e6f292abcad9825fa89bdbaeac670e"), looks := false }, kinds := [], alts := [], laidByText := true, laidKinds := [.data, .data, .data], laidTests := true, laidLooks := .later }
def WellDoesUptoCardSaid : Prop := Claim7.holds Tryz.pinned (.plain (OpenSpec.upto wellDoesSpec)) wellDoesUptoCard
end Rows
end Go.Proofs.YtckfcfcmfjfchaaGreatDoor
