/-
  DERIVED. GIVEN WITH THE SEED: THE CARDS: each row of YtkonpmbcipbhbaaGreatDoorRows.lean that lists a variable, with what it lists TIED to the program's text (the seventh form; the later family's looks); each row that meets fmt, with fmt's text TOLD by the authors' own Lean function (tested against real Go, not proved from fmt's source: count such statements apart). THE CARD IS WHAT COUNTS. Prove the row's statement (the work); the ties are given (YtkonpmbcipbhbaaGreatDoorTie.lean); close each card by the builder's one call (the guide's Derived/Test/ToyasCard.lean, 'card_holds'). Laid BY PROGRAM, IN A SANDBOX (cutbox-door.mjs). By AI agents, Wed Nov 11 2026. No macro, syntax, notation, axiom, sorry.
-/
import Derived.Test.YtkonpmbcipbhbaaGreatDoorRows
import GoSem.ClaimSeven
namespace Go.Proofs.YtkonpmbcipbhbaaGreatDoor
namespace Rows

/-- THE TIED CARD OF 'saltdomelaw06.BookSells'. -/
def bookSellsCard : Claim7 := { stood := { row := bookSellsRow, standIns := [], harness := (true, "4b07f4daca02d5bada77bd2d36113d35331a951178e63c6c6ed7807f5d3cf72a"), looks := false }, kinds := [], alts := [], laidByText := true, laidKinds := [.data, .data, .data], laidTests := true, laidLooks := .later }
def BookSellsCardSaid : Prop := Claim7.holds Tryz.pinned (.plain (OpenSpec.ofChange bookSellsSpec)) bookSellsCard

/-- THE TIED CARD OF 'saltdomelaw06.BookRivals'. -/
def bookRivalsCard : Claim7 := { stood := { row := bookRivalsRow, standIns := [], harness := (true, "4b07f4daca02d5bada77bd2d36113d35331a951178e63c6c6ed7807f5d3cf72a"), looks := false }, kinds := [], alts := [], laidByText := true, laidKinds := [.data, .data, .data], laidTests := true, laidLooks := .later }
def BookRivalsCardSaid : Prop := Claim7.holds Tryz.pinned (.plain (OpenSpec.ofChange bookRivalsSpec)) bookRivalsCard

/-- THE SECOND FORM's CARD OF 'saltdomelaw06.BookSells'. -/
def bookSellsUptoCard : Claim7 := { stood := { row := bookSellsUptoRow, standIns := [], harness := (true, "4b07f4daca02d5bada77bd2d36113d35331a951178e63c6c6ed7807f5d3cf72a"), looks := false }, kinds := [], alts := [], laidByText := true, laidKinds := [.data, .data, .data], laidTests := true, laidLooks := .later }
def BookSellsUptoCardSaid : Prop := Claim7.holds Tryz.pinned (.plain (OpenSpec.upto bookSellsSpec)) bookSellsUptoCard

/-- THE SECOND FORM's CARD OF 'saltdomelaw06.BookRivals'. -/
def bookRivalsUptoCard : Claim7 := { stood := { row := bookRivalsUptoRow, standIns := [], harness := (true, "4b07f4daca02d5bada77bd2d36113d35331a951178e63c6c6ed7807f5d3cf72a"), looks := false }, kinds := [], alts := [], laidByText := true, laidKinds := [.data, .data, .data], laidTests := true, laidLooks := .later }
def BookRivalsUptoCardSaid : Prop := Claim7.holds Tryz.pinned (.plain (OpenSpec.upto bookRivalsSpec)) bookRivalsUptoCard
end Rows
end Go.Proofs.YtkonpmbcipbhbaaGreatDoor
