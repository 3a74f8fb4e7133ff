/-
  DERIVED. GIVEN WITH THE SEED: THE CARDS: each row of YtdbiogihimdpcaaDoorRows.lean that lists a variable, with what it lists TIED to the program's text (the seventh form; the later family's looks); each row that meets fmt, with fmt's text TOLD by the authors' own Lean function (tested against real Go, not proved from fmt's source: count such statements apart). THE CARD IS WHAT COUNTS. Prove the row's statement (the work); the ties are given (YtdbiogihimdpcaaDoorTie.lean); close each card by the builder's one call (the guide's Derived/Test/ToyasCard.lean, 'card_holds'). Laid BY PROGRAM, IN A SANDBOX (cutbox-door.mjs). By AI agents, Wed Nov 11 2026. No macro, syntax, notation, axiom, sorry.
-/
import Derived.Test.YtdbiogihimdpcaaDoorRows
import GoSem.ClaimSeven
namespace Go.Proofs.YtdbiogihimdpcaaDoor
namespace Rows

/-- THE TIED CARD OF 'saltdomelaw06.BookRates'. -/
def bookRatesCard : Claim7 := { stood := { row := bookRatesRow, standIns := [], harness := (true, "1c241e8d8e8881603a8251a9161becc659d26abc53c35b9be0ad64c4fd88c444"), looks := false }, kinds := [], alts := [], laidByText := true, laidKinds := [.data, .data, .data], laidTests := true, laidLooks := .later }
def BookRatesCardSaid : Prop := Claim7.holds Tryd.pinned (.plain (OpenSpec.ofChange bookRatesSpec)) bookRatesCard

/-- THE SECOND FORM's CARD OF 'saltdomelaw06.BookRates'. -/
def bookRatesUptoCard : Claim7 := { stood := { row := bookRatesUptoRow, standIns := [], harness := (true, "1c241e8d8e8881603a8251a9161becc659d26abc53c35b9be0ad64c4fd88c444"), looks := false }, kinds := [], alts := [], laidByText := true, laidKinds := [.data, .data, .data], laidTests := true, laidLooks := .later }
def BookRatesUptoCardSaid : Prop := Claim7.holds Tryd.pinned (.plain (OpenSpec.upto bookRatesSpec)) bookRatesUptoCard
end Rows
end Go.Proofs.YtdbiogihimdpcaaDoor
