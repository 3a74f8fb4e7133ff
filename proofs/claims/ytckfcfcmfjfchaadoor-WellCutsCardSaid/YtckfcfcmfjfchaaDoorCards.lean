/-
  DERIVED. GIVEN WITH THE SEED: THE CARDS: each row of YtckfcfcmfjfchaaDoorRows.lean that lists a variable, with what it lists TIED to the program's text (the seventh form; the later family's looks); each row that meets fmt, with fmt's text TOLD by the authors' own Lean function (tested against real Go, not proved from fmt's source: count such statements apart). THE CARD IS WHAT COUNTS. Prove the row's statement (the work); the ties are given (YtckfcfcmfjfchaaDoorTie.lean); close each card by the builder's one call (the guide's Derived/Test/ToyasCard.lean, 'card_holds'). Laid BY PROGRAM, IN A SANDBOX (cutbox-door.mjs). By AI agents, Wed Nov 11 2026. No macro, syntax, notation, axiom, sorry.
-/
import Derived.Test.YtckfcfcmfjfchaaDoorRows
import GoSem.ClaimSeven
namespace Go.Proofs.YtckfcfcmfjfchaaDoor
namespace Rows

/-- THE TIED CARD OF 'saltdomelaw04.WellBarriers'. -/
def wellBarriersCard : Claim7 := { stood := { row := wellBarriersRow, standIns := [], harness := (true, "6c2eba8f93cc9e06c3abfd69a501ba9f8c4076b9de9d6e4a8f700e748b8e122f"), looks := false }, kinds := [], alts := [], laidByText := true, laidKinds := [.data, .data, .data], laidTests := true, laidLooks := .later }
def WellBarriersCardSaid : Prop := Claim7.holds Tryd.pinned (.plain (OpenSpec.ofChange wellBarriersSpec)) wellBarriersCard

/-- THE TIED CARD OF 'saltdomelaw04.WellCuts'. -/
def wellCutsCard : Claim7 := { stood := { row := wellCutsRow, standIns := [], harness := (true, "6c2eba8f93cc9e06c3abfd69a501ba9f8c4076b9de9d6e4a8f700e748b8e122f"), looks := false }, kinds := [], alts := [], laidByText := true, laidKinds := [.data, .data, .data], laidTests := true, laidLooks := .later }
def WellCutsCardSaid : Prop := Claim7.holds Tryd.pinned (.plain (OpenSpec.ofChange wellCutsSpec)) wellCutsCard

/-- THE TIED CARD OF 'saltdomelaw04.WellAlones'. -/
def wellAlonesCard : Claim7 := { stood := { row := wellAlonesRow, standIns := [], harness := (true, "6c2eba8f93cc9e06c3abfd69a501ba9f8c4076b9de9d6e4a8f700e748b8e122f"), looks := false }, kinds := [], alts := [], laidByText := true, laidKinds := [.data, .data, .data], laidTests := true, laidLooks := .later }
def WellAlonesCardSaid : Prop := Claim7.holds Tryd.pinned (.plain (OpenSpec.ofChange wellAlonesSpec)) wellAlonesCard

/-- THE TIED CARD OF 'saltdomelaw04.WellLasts'. -/
def wellLastsCard : Claim7 := { stood := { row := wellLastsRow, standIns := [], harness := (true, "6c2eba8f93cc9e06c3abfd69a501ba9f8c4076b9de9d6e4a8f700e748b8e122f"), looks := false }, kinds := [], alts := [], laidByText := true, laidKinds := [.data, .data, .data], laidTests := true, laidLooks := .later }
def WellLastsCardSaid : Prop := Claim7.holds Tryd.pinned (.plain (OpenSpec.ofChange wellLastsSpec)) wellLastsCard

/-- THE TIED CARD OF 'saltdomelaw04.WellChecks'. -/
def wellChecksCard : Claim7 := { stood := { row := wellChecksRow, standIns := [], harness := (true, "6c2eba8f93cc9e06c3abfd69a501ba9f8c4076b9de9d6e4a8f700e748b8e122f"), looks := false }, kinds := [], alts := [], laidByText := true, laidKinds := [.data, .data, .data], laidTests := true, laidLooks := .later }
def WellChecksCardSaid : Prop := Claim7.holds Tryd.pinned (.plain (OpenSpec.ofChange wellChecksSpec)) wellChecksCard

/-- THE TIED CARD OF 'saltdomelaw04.WellSafe'. -/
def wellSafeCard : Claim7 := { stood := { row := wellSafeRow, standIns := [], harness := (true, "6c2eba8f93cc9e06c3abfd69a501ba9f8c4076b9de9d6e4a8f700e748b8e122f"), looks := false }, kinds := [], alts := [], laidByText := true, laidKinds := [.data, .data, .data], laidTests := true, laidLooks := .later }
def WellSafeCardSaid : Prop := Claim7.holds Tryd.pinned (.plain (OpenSpec.ofChange wellSafeSpec)) wellSafeCard

/-- THE SECOND FORM's CARD OF 'saltdomelaw04.WellBarriers'. -/
def wellBarriersUptoCard : Claim7 := { stood := { row := wellBarriersUptoRow, standIns := [], harness := (true, "6c2eba8f93cc9e06c3abfd69a501ba9f8c4076b9de9d6e4a8f700e748b8e122f"), looks := false }, kinds := [], alts := [], laidByText := true, laidKinds := [.data, .data, .data], laidTests := true, laidLooks := .later }
def WellBarriersUptoCardSaid : Prop := Claim7.holds Tryd.pinned (.plain (OpenSpec.upto wellBarriersSpec)) wellBarriersUptoCard

/-- THE SECOND FORM's CARD OF 'saltdomelaw04.WellCuts'. -/
def wellCutsUptoCard : Claim7 := { stood := { row := wellCutsUptoRow, standIns := [], harness := (true, "6c2eba8f93cc9e06c3abfd69a501ba9f8c4076b9de9d6e4a8f700e748b8e122f"), looks := false }, kinds := [], alts := [], laidByText := true, laidKinds := [.data, .data, .data], laidTests := true, laidLooks := .later }
def WellCutsUptoCardSaid : Prop := Claim7.holds Tryd.pinned (.plain (OpenSpec.upto wellCutsSpec)) wellCutsUptoCard

/-- THE SECOND FORM's CARD OF 'saltdomelaw04.WellAlones'. -/
def wellAlonesUptoCard : Claim7 := { stood := { row := wellAlonesUptoRow, standIns := [], harness := (true, "6c2eba8f93cc9e06c3abfd69a501ba9f8c4076b9de9d6e4a8f700e748b8e122f"), looks := false }, kinds := [], alts := [], laidByText := true, laidKinds := [.data, .data, .data], laidTests := true, laidLooks := .later }
def WellAlonesUptoCardSaid : Prop := Claim7.holds Tryd.pinned (.plain (OpenSpec.upto wellAlonesSpec)) wellAlonesUptoCard

/-- THE SECOND FORM's CARD OF 'saltdomelaw04.WellLasts'. -/
def wellLastsUptoCard : Claim7 := { stood := { row := wellLastsUptoRow, standIns := [], harness := (true, "6c2eba8f93cc9e06c3abfd69a501ba9f8c4076b9de9d6e4a8f700e748b8e122f"), looks := false }, kinds := [], alts := [], laidByText := true, laidKinds := [.data, .data, .data], laidTests := true, laidLooks := .later }
def WellLastsUptoCardSaid : Prop := Claim7.holds Tryd.pinned (.plain (OpenSpec.upto wellLastsSpec)) wellLastsUptoCard

/-- THE SECOND FORM's CARD OF 'saltdomelaw04.WellChecks'. -/
def wellChecksUptoCard : Claim7 := { stood := { row := wellChecksUptoRow, standIns := [], harness := (true, "6c2eba8f93cc9e06c3abfd69a501ba9f8c4076b9de9d6e4a8f700e748b8e122f"), looks := false }, kinds := [], alts := [], laidByText := true, laidKinds := [.data, .data, .data], laidTests := true, laidLooks := .later }
def WellChecksUptoCardSaid : Prop := Claim7.holds Tryd.pinned (.plain (OpenSpec.upto wellChecksSpec)) wellChecksUptoCard

/-- THE SECOND FORM's CARD OF 'saltdomelaw04.WellSafe'. -/
def wellSafeUptoCard : Claim7 := { stood := { row := wellSafeUptoRow, standIns := [], harness := (true, "6c2eba8f93cc9e06c3abfd69a501ba9f8c4076b9de9d6e4a8f700e748b8e122f"), looks := false }, kinds := [], alts := [], laidByText := true, laidKinds := [.data, .data, .data], laidTests := true, laidLooks := .later }
def WellSafeUptoCardSaid : Prop := Claim7.holds Tryd.pinned (.plain (OpenSpec.upto wellSafeSpec)) wellSafeUptoCard
end Rows
end Go.Proofs.YtckfcfcmfjfchaaDoor
