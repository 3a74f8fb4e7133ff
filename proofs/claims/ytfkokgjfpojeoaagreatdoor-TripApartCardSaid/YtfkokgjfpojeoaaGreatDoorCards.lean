/-
  DERIVED. GIVEN WITH THE SEED: THE CARDS: each row of YtfkokgjfpojeoaaGreatDoorRows.lean that lists a variable, with what it lists TIED to the program's text (the seventh form; the later family's looks); each row that meets fmt, with fmt's text TOLD by the authors' own Lean function (tested against real Go, not proved from fmt's source: count such statements apart). THE CARD IS WHAT COUNTS. Prove the row's statement (the work); the ties are given (YtfkokgjfpojeoaaGreatDoorTie.lean); close each card by the builder's one call (the guide's Derived/Test/ToyasCard.lean, 'card_holds'). Laid BY PROGRAM, IN A SANDBOX (cutbox-door.mjs). By AI agents, Wed Nov 11 2026. No macro, syntax, notation, axiom, sorry.
-/
import Derived.Test.YtfkokgjfpojeoaaGreatDoorRows
import GoSem.ClaimSeven
namespace Go.Proofs.YtfkokgjfpojeoaaGreatDoor
namespace Rows

/-- THE TIED CARD OF 'saltdomelaw07.TripPlays'. -/
def tripPlaysCard : Claim7 := { stood := { row := tripPlaysRow, standIns := [], harness := (true, "b6704c25996e9501f2a9f46ef17a58c6ca867263c5e80b6bcbfd0124c9ac6b18"), looks := false }, kinds := [], alts := [], laidByText := true, laidKinds := [.data, .data, .data], laidTests := true, laidLooks := .later }
def TripPlaysCardSaid : Prop := Claim7.holds Tryz.pinned (.plain (OpenSpec.ofChange tripPlaysSpec)) tripPlaysCard

/-- THE TIED CARD OF 'saltdomelaw07.TripApart'. -/
def tripApartCard : Claim7 := { stood := { row := tripApartRow, standIns := [], harness := (true, "b6704c25996e9501f2a9f46ef17a58c6ca867263c5e80b6bcbfd0124c9ac6b18"), looks := false }, kinds := [], alts := [], laidByText := true, laidKinds := [.data, .data, .data], laidTests := true, laidLooks := .later }
def TripApartCardSaid : Prop := Claim7.holds Tryz.pinned (.plain (OpenSpec.ofChange tripApartSpec)) tripApartCard

/-- THE SECOND FORM's CARD OF 'saltdomelaw07.TripPlays'. -/
def tripPlaysUptoCard : Claim7 := { stood := { row := tripPlaysUptoRow, standIns := [], harness := (true, "b6704c25996e9501f2a9f46ef17a58c6ca867263c5e80b6bcbfd0124c9ac6b18"), looks := false }, kinds := [], alts := [], laidByText := true, laidKinds := [.data, .data, .data], laidTests := true, laidLooks := .later }
def TripPlaysUptoCardSaid : Prop := Claim7.holds Tryz.pinned (.plain (OpenSpec.upto tripPlaysSpec)) tripPlaysUptoCard

/-- THE SECOND FORM's CARD OF 'saltdomelaw07.TripApart'. -/
def tripApartUptoCard : Claim7 := { stood := { row := tripApartUptoRow, standIns := [], harness := (true, "b6704c25996e9501f2a9f46ef17a58c6ca867263c5e80b6bcbfd0124c9ac6b18"), looks := false }, kinds := [], alts := [], laidByText := true, laidKinds := [.data, .data, .data], laidTests := true, laidLooks := .later }
def TripApartUptoCardSaid : Prop := Claim7.holds Tryz.pinned (.plain (OpenSpec.upto tripApartSpec)) tripApartUptoCard
end Rows
end Go.Proofs.YtfkokgjfpojeoaaGreatDoor
