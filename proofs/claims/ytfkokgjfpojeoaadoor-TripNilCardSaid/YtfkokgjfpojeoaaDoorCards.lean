/-
  DERIVED. GIVEN WITH THE SEED: THE CARDS: each row of YtfkokgjfpojeoaaDoorRows.lean that lists a variable, with what it lists TIED to the program's text (the seventh form; the later family's looks); each row that meets fmt, with fmt's text TOLD by the authors' own Lean function (tested against real Go, not proved from fmt's source: count such statements apart). THE CARD IS WHAT COUNTS. Prove the row's statement (the work); the ties are given (YtfkokgjfpojeoaaDoorTie.lean); close each card by the builder's one call (the guide's Derived/Test/ToyasCard.lean, 'card_holds'). Laid BY PROGRAM, IN A SANDBOX (cutbox-door.mjs). By AI agents, Wed Nov 11 2026. No macro, syntax, notation, axiom, sorry.
-/
import Derived.Test.YtfkokgjfpojeoaaDoorRows
import GoSem.ClaimSeven
namespace Go.Proofs.YtfkokgjfpojeoaaDoor
namespace Rows

/-- THE TIED CARD OF 'saltdomelaw07.TripNil'. -/
def tripNilCard : Claim7 := { stood := { row := tripNilRow, standIns := [], harness := (true, "196f91750e4e7068af4a8c4adf95ca7713d67c412c4195fb40dee6cda9cd514f"), looks := false }, kinds := [], alts := [], laidByText := true, laidKinds := [.data, .data, .data], laidTests := true, laidLooks := .later }
def TripNilCardSaid : Prop := Claim7.holds Tryd.pinned (.plain (OpenSpec.ofChange tripNilSpec)) tripNilCard

/-- THE SECOND FORM's CARD OF 'saltdomelaw07.TripNil'. -/
def tripNilUptoCard : Claim7 := { stood := { row := tripNilUptoRow, standIns := [], harness := (true, "196f91750e4e7068af4a8c4adf95ca7713d67c412c4195fb40dee6cda9cd514f"), looks := false }, kinds := [], alts := [], laidByText := true, laidKinds := [.data, .data, .data], laidTests := true, laidLooks := .later }
def TripNilUptoCardSaid : Prop := Claim7.holds Tryd.pinned (.plain (OpenSpec.upto tripNilSpec)) tripNilUptoCard
end Rows
end Go.Proofs.YtfkokgjfpojeoaaDoor
