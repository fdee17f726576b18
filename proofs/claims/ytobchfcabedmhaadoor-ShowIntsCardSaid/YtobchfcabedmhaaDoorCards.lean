/-
  DERIVED. GIVEN WITH THE SEED: THE CARDS: each row of YtobchfcabedmhaaDoorRows.lean that lists a variable, with what it lists TIED to the program's text (the seventh form; the later family's looks); each row that meets fmt, with fmt's text TOLD by the authors' own Lean function (tested against real Go, not proved from fmt's source: count such statements apart). THE CARD IS WHAT COUNTS. Prove the row's statement (the work); the ties are given (YtobchfcabedmhaaDoorTie.lean); close each card by the builder's one call (the guide's Derived/Test/ToyasCard.lean, 'card_holds'). Laid BY PROGRAM, IN A SANDBOX (cutbox-door.mjs). By AI agents, Wed Nov 11 2026. No macro, syntax, notation, axiom, sorry.
-/
import Derived.Test.YtobchfcabedmhaaDoorRows
import GoSem.ClaimSeven
namespace Go.Proofs.YtobchfcabedmhaaDoor
namespace Rows

/-- THE TIED CARD OF 'sacristanlaw03.ShowShows'. -/
def showShowsCard : Claim7 := { stood := { row := showShowsRow, standIns := [], harness := (true, "14adee8524042bdb8869355e02901cec76a2007e62545a28767c8d3389c5bc51"), looks := false }, kinds := [], alts := [], laidByText := true, laidKinds := [.data, .data, .data], laidTests := true, laidLooks := .later }
def ShowShowsCardSaid : Prop := Claim7.holds Tryd.pinned (.plain (OpenSpec.ofChange showShowsSpec)) showShowsCard

/-- THE TIED CARD OF 'sacristanlaw03.ShowInts'. -/
def showIntsCard : Claim7 := { stood := { row := showIntsRow, standIns := [], harness := (true, "14adee8524042bdb8869355e02901cec76a2007e62545a28767c8d3389c5bc51"), looks := false }, kinds := [], alts := [], laidByText := true, laidKinds := [.data, .data, .data], laidTests := true, laidLooks := .later }
def ShowIntsCardSaid : Prop := Claim7.holds Tryd.pinned (.plain (OpenSpec.ofChange showIntsSpec)) showIntsCard

/-- THE TIED CARD OF 'sacristanlaw03.ShowPairs'. -/
def showPairsCard : Claim7 := { stood := { row := showPairsRow, standIns := [], harness := (true, "14adee8524042bdb8869355e02901cec76a2007e62545a28767c8d3389c5bc51"), looks := false }, kinds := [], alts := [], laidByText := true, laidKinds := [.data, .data, .data], laidTests := true, laidLooks := .later }
def ShowPairsCardSaid : Prop := Claim7.holds Tryd.pinned (.plain (OpenSpec.ofChange showPairsSpec)) showPairsCard

/-- THE TIED CARD OF 'sacristanlaw03.ShowDeep'. -/
def showDeepCard : Claim7 := { stood := { row := showDeepRow, standIns := [], harness := (true, "14adee8524042bdb8869355e02901cec76a2007e62545a28767c8d3389c5bc51"), looks := false }, kinds := [], alts := [], laidByText := true, laidKinds := [.data, .data, .data], laidTests := true, laidLooks := .later }
def ShowDeepCardSaid : Prop := Claim7.holds Tryd.pinned (.plain (OpenSpec.ofChange showDeepSpec)) showDeepCard

/-- THE TIED CARD OF 'sacristanlaw03.ShowQuotes'. -/
def showQuotesCard : Claim7 := { stood := { row := showQuotesRow, standIns := [], harness := (true, "14adee8524042bdb8869355e02901cec76a2007e62545a28767c8d3389c5bc51"), looks := false }, kinds := [], alts := [], laidByText := true, laidKinds := [.data, .data, .data], laidTests := true, laidLooks := .later }
def ShowQuotesCardSaid : Prop := Claim7.holds Tryd.pinned (.plain (OpenSpec.ofChange showQuotesSpec)) showQuotesCard

/-- THE SECOND FORM's CARD OF 'sacristanlaw03.ShowShows'. -/
def showShowsUptoCard : Claim7 := { stood := { row := showShowsUptoRow, standIns := [], harness := (true, "14adee8524042bdb8869355e02901cec76a2007e62545a28767c8d3389c5bc51"), looks := false }, kinds := [], alts := [], laidByText := true, laidKinds := [.data, .data, .data], laidTests := true, laidLooks := .later }
def ShowShowsUptoCardSaid : Prop := Claim7.holds Tryd.pinned (.plain (OpenSpec.upto showShowsSpec)) showShowsUptoCard

/-- THE SECOND FORM's CARD OF 'sacristanlaw03.ShowInts'. -/
def showIntsUptoCard : Claim7 := { stood := { row := showIntsUptoRow, standIns := [], harness := (true, "14adee8524042bdb8869355e02901cec76a2007e62545a28767c8d3389c5bc51"), looks := false }, kinds := [], alts := [], laidByText := true, laidKinds := [.data, .data, .data], laidTests := true, laidLooks := .later }
def ShowIntsUptoCardSaid : Prop := Claim7.holds Tryd.pinned (.plain (OpenSpec.upto showIntsSpec)) showIntsUptoCard

/-- THE SECOND FORM's CARD OF 'sacristanlaw03.ShowPairs'. -/
def showPairsUptoCard : Claim7 := { stood := { row := showPairsUptoRow, standIns := [], harness := (true, "14adee8524042bdb8869355e02901cec76a2007e62545a28767c8d3389c5bc51"), looks := false }, kinds := [], alts := [], laidByText := true, laidKinds := [.data, .data, .data], laidTests := true, laidLooks := .later }
def ShowPairsUptoCardSaid : Prop := Claim7.holds Tryd.pinned (.plain (OpenSpec.upto showPairsSpec)) showPairsUptoCard

/-- THE SECOND FORM's CARD OF 'sacristanlaw03.ShowDeep'. -/
def showDeepUptoCard : Claim7 := { stood := { row := showDeepUptoRow, standIns := [], harness := (true, "14adee8524042bdb8869355e02901cec76a2007e62545a28767c8d3389c5bc51"), looks := false }, kinds := [], alts := [], laidByText := true, laidKinds := [.data, .data, .data], laidTests := true, laidLooks := .later }
def ShowDeepUptoCardSaid : Prop := Claim7.holds Tryd.pinned (.plain (OpenSpec.upto showDeepSpec)) showDeepUptoCard

/-- THE SECOND FORM's CARD OF 'sacristanlaw03.ShowQuotes'. -/
def showQuotesUptoCard : Claim7 := { stood := { row := showQuotesUptoRow, standIns := [], harness := (true, "14adee8524042bdb8869355e02901cec76a2007e62545a28767c8d3389c5bc51"), looks := false }, kinds := [], alts := [], laidByText := true, laidKinds := [.data, .data, .data], laidTests := true, laidLooks := .later }
def ShowQuotesUptoCardSaid : Prop := Claim7.holds Tryd.pinned (.plain (OpenSpec.upto showQuotesSpec)) showQuotesUptoCard
end Rows
end Go.Proofs.YtobchfcabedmhaaDoor
