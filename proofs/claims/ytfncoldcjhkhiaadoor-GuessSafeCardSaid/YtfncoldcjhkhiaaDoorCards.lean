/-
  DERIVED. GIVEN WITH THE SEED: THE CARDS: each row of YtfncoldcjhkhiaaDoorRows.lean that lists a variable, with what it lists TIED to the program's text (the seventh form; the later family's looks); each row that meets fmt, with fmt's text TOLD by the authors' own Lean function (tested against real Go, not proved from fmt's source: count such statements apart). THE CARD IS WHAT COUNTS. Prove the row's statement (the work); the ties are given (YtfncoldcjhkhiaaDoorTie.lean); close each card by the builder's one call (the guide's Derived/Test/ToyasCard.lean, 'card_holds'). Laid BY PROGRAM, IN A SANDBOX (cutbox-door.mjs). By AI agents, Wed Nov 11 2026. No macro, syntax, notation, axiom, sorry.
-/
import Derived.Test.YtfncoldcjhkhiaaDoorRows
import GoSem.ClaimSeven
namespace Go.Proofs.YtfncoldcjhkhiaaDoor
namespace Rows

/-- THE TIED CARD OF 'sacristanlaw09.CodeWords'. -/
def codeWordsCard : Claim7 := { stood := { row := codeWordsRow, standIns := [], harness := (true, "55edf9ffbf2856d7d84da91ef86d61846273d7531a332642084a1d30cb489ae3"), looks := false }, kinds := [], alts := [], laidByText := true, laidKinds := [.listed, .data], laidTests := true, laidLooks := .later }
def CodeWordsCardSaid : Prop := Claim7.holds Tryd.pinned (.plain (OpenSpec.ofChange codeWordsSpec)) codeWordsCard

/-- THE TIED CARD OF 'sacristanlaw09.CodeEffects'. -/
def codeEffectsCard : Claim7 := { stood := { row := codeEffectsRow, standIns := [], harness := (true, "55edf9ffbf2856d7d84da91ef86d61846273d7531a332642084a1d30cb489ae3"), looks := false }, kinds := [], alts := [], laidByText := true, laidKinds := [.listed, .data], laidTests := true, laidLooks := .later }
def CodeEffectsCardSaid : Prop := Claim7.holds Tryd.pinned (.plain (OpenSpec.ofChange codeEffectsSpec)) codeEffectsCard

/-- THE TIED CARD OF 'sacristanlaw09.CodeMay'. -/
def codeMayCard : Claim7 := { stood := { row := codeMayRow, standIns := [], harness := (true, "55edf9ffbf2856d7d84da91ef86d61846273d7531a332642084a1d30cb489ae3"), looks := false }, kinds := [], alts := [], laidByText := true, laidKinds := [.listed, .data], laidTests := true, laidLooks := .later }
def CodeMayCardSaid : Prop := Claim7.holds Tryd.pinned (.plain (OpenSpec.ofChange codeMaySpec)) codeMayCard

/-- THE TIED CARD OF 'sacristanlaw09.CodeMore'. -/
def codeMoreCard : Claim7 := { stood := { row := codeMoreRow, standIns := [], harness := (true, "55edf9ffbf2856d7d84da91ef86d61846273d7531a332642084a1d30cb489ae3"), looks := false }, kinds := [], alts := [], laidByText := true, laidKinds := [.listed, .data], laidTests := true, laidLooks := .later }
def CodeMoreCardSaid : Prop := Claim7.holds Tryd.pinned (.plain (OpenSpec.ofChange codeMoreSpec)) codeMoreCard

/-- THE TIED CARD OF 'sacristanlaw11.VerifyChecks'. -/
def verifyChecksCard : Claim7 := { stood := { row := verifyChecksRow, standIns := [], harness := (true, "55edf9ffbf2856d7d84da91ef86d61846273d7531a332642084a1d30cb489ae3"), looks := false }, kinds := [], alts := [], laidByText := true, laidKinds := [.listed, .data], laidTests := true, laidLooks := .later }
def VerifyChecksCardSaid : Prop := Claim7.holds Tryd.pinned (.plain (OpenSpec.ofChange verifyChecksSpec)) verifyChecksCard

/-- THE TIED CARD OF 'sacristanlaw11.VerifyHigh'. -/
def verifyHighCard : Claim7 := { stood := { row := verifyHighRow, standIns := [], harness := (true, "55edf9ffbf2856d7d84da91ef86d61846273d7531a332642084a1d30cb489ae3"), looks := false }, kinds := [], alts := [], laidByText := true, laidKinds := [.listed, .data], laidTests := true, laidLooks := .later }
def VerifyHighCardSaid : Prop := Claim7.holds Tryd.pinned (.plain (OpenSpec.ofChange verifyHighSpec)) verifyHighCard

/-- THE TIED CARD OF 'sacristanlaw11.VerifyDead'. -/
def verifyDeadCard : Claim7 := { stood := { row := verifyDeadRow, standIns := [], harness := (true, "55edf9ffbf2856d7d84da91ef86d61846273d7531a332642084a1d30cb489ae3"), looks := false }, kinds := [], alts := [], laidByText := true, laidKinds := [.listed, .data], laidTests := true, laidLooks := .later }
def VerifyDeadCardSaid : Prop := Claim7.holds Tryd.pinned (.plain (OpenSpec.ofChange verifyDeadSpec)) verifyDeadCard

/-- THE TIED CARD OF 'sacristanlaw11.VerifyMore'. -/
def verifyMoreCard : Claim7 := { stood := { row := verifyMoreRow, standIns := [], harness := (true, "55edf9ffbf2856d7d84da91ef86d61846273d7531a332642084a1d30cb489ae3"), looks := false }, kinds := [], alts := [], laidByText := true, laidKinds := [.listed, .data], laidTests := true, laidLooks := .later }
def VerifyMoreCardSaid : Prop := Claim7.holds Tryd.pinned (.plain (OpenSpec.ofChange verifyMoreSpec)) verifyMoreCard

/-- THE TIED CARD OF 'sacristanlaw11.VerifyPairs'. -/
def verifyPairsCard : Claim7 := { stood := { row := verifyPairsRow, standIns := [], harness := (true, "55edf9ffbf2856d7d84da91ef86d61846273d7531a332642084a1d30cb489ae3"), looks := false }, kinds := [], alts := [], laidByText := true, laidKinds := [.listed, .data], laidTests := true, laidLooks := .later }
def VerifyPairsCardSaid : Prop := Claim7.holds Tryd.pinned (.plain (OpenSpec.ofChange verifyPairsSpec)) verifyPairsCard

/-- THE TIED CARD OF 'sacristanlaw19.GuessWays'. -/
def guessWaysCard : Claim7 := { stood := { row := guessWaysRow, standIns := [], harness := (true, "55edf9ffbf2856d7d84da91ef86d61846273d7531a332642084a1d30cb489ae3"), looks := false }, kinds := [], alts := [], laidByText := true, laidKinds := [.listed, .data], laidTests := true, laidLooks := .later }
def GuessWaysCardSaid : Prop := Claim7.holds Tryd.pinned (.plain (OpenSpec.ofChange guessWaysSpec)) guessWaysCard

/-- THE TIED CARD OF 'sacristanlaw19.GuessPure'. -/
def guessPureCard : Claim7 := { stood := { row := guessPureRow, standIns := [], harness := (true, "55edf9ffbf2856d7d84da91ef86d61846273d7531a332642084a1d30cb489ae3"), looks := false }, kinds := [], alts := [], laidByText := true, laidKinds := [.listed, .data], laidTests := true, laidLooks := .later }
def GuessPureCardSaid : Prop := Claim7.holds Tryd.pinned (.plain (OpenSpec.ofChange guessPureSpec)) guessPureCard

/-- THE TIED CARD OF 'sacristanlaw19.GuessSafe'. -/
def guessSafeCard : Claim7 := { stood := { row := guessSafeRow, standIns := [], harness := (true, "55edf9ffbf2856d7d84da91ef86d61846273d7531a332642084a1d30cb489ae3"), looks := false }, kinds := [], alts := [], laidByText := true, laidKinds := [.listed, .data], laidTests := true, laidLooks := .later }
def GuessSafeCardSaid : Prop := Claim7.holds Tryd.pinned (.plain (OpenSpec.ofChange guessSafeSpec)) guessSafeCard

/-- THE TIED CARD OF 'sacristanlaw19.GuessStraight'. -/
def guessStraightCard : Claim7 := { stood := { row := guessStraightRow, standIns := [], harness := (true, "55edf9ffbf2856d7d84da91ef86d61846273d7531a332642084a1d30cb489ae3"), looks := false }, kinds := [], alts := [], laidByText := true, laidKinds := [.listed, .data], laidTests := true, laidLooks := .later }
def GuessStraightCardSaid : Prop := Claim7.holds Tryd.pinned (.plain (OpenSpec.ofChange guessStraightSpec)) guessStraightCard

/-- THE SECOND FORM's CARD OF 'sacristanlaw09.CodeWords'. -/
def codeWordsUptoCard : Claim7 := { stood := { row := codeWordsUptoRow, standIns := [], harness := (true, "55edf9ffbf2856d7d84da91ef86d61846273d7531a332642084a1d30cb489ae3"), looks := false }, kinds := [], alts := [], laidByText := true, laidKinds := [.listed, .data], laidTests := true, laidLooks := .later }
def CodeWordsUptoCardSaid : Prop := Claim7.holds Tryd.pinned (.plain (OpenSpec.upto codeWordsSpec)) codeWordsUptoCard

/-- THE SECOND FORM's CARD OF 'sacristanlaw09.CodeEffects'. -/
def codeEffectsUptoCard : Claim7 := { stood := { row := codeEffectsUptoRow, standIns := [], harness := (true, "55edf9ffbf2856d7d84da91ef86d61846273d7531a332642084a1d30cb489ae3"), looks := false }, kinds := [], alts := [], laidByText := true, laidKinds := [.listed, .data], laidTests := true, laidLooks := .later }
def CodeEffectsUptoCardSaid : Prop := Claim7.holds Tryd.pinned (.plain (OpenSpec.upto codeEffectsSpec)) codeEffectsUptoCard

/-- THE SECOND FORM's CARD OF 'sacristanlaw09.CodeMay'. -/
def codeMayUptoCard : Claim7 := { stood := { row := codeMayUptoRow, standIns := [], harness := (true, "55edf9ffbf2856d7d84da91ef86d61846273d7531a332642084a1d30cb489ae3"), looks := false }, kinds := [], alts := [], laidByText := true, laidKinds := [.listed, .data], laidTests := true, laidLooks := .later }
def CodeMayUptoCardSaid : Prop := Claim7.holds Tryd.pinned (.plain (OpenSpec.upto codeMaySpec)) codeMayUptoCard

/-- THE SECOND FORM's CARD OF 'sacristanlaw09.CodeMore'. -/
def codeMoreUptoCard : Claim7 := { stood := { row := codeMoreUptoRow, standIns := [], harness := (true, "55edf9ffbf2856d7d84da91ef86d61846273d7531a332642084a1d30cb489ae3"), looks := false }, kinds := [], alts := [], laidByText := true, laidKinds := [.listed, .data], laidTests := true, laidLooks := .later }
def CodeMoreUptoCardSaid : Prop := Claim7.holds Tryd.pinned (.plain (OpenSpec.upto codeMoreSpec)) codeMoreUptoCard

/-- THE SECOND FORM's CARD OF 'sacristanlaw11.VerifyChecks'. -/
def verifyChecksUptoCard : Claim7 := { stood := { row := verifyChecksUptoRow, standIns := [], harness := (true, "55edf9ffbf2856d7d84da91ef86d61846273d7531a332642084a1d30cb489ae3"), looks := false }, kinds := [], alts := [], laidByText := true, laidKinds := [.listed, .data], laidTests := true, laidLooks := .later }
def VerifyChecksUptoCardSaid : Prop := Claim7.holds Tryd.pinned (.plain (OpenSpec.upto verifyChecksSpec)) verifyChecksUptoCard

/-- THE SECOND FORM's CARD OF 'sacristanlaw11.VerifyHigh'. -/
def verifyHighUptoCard : Claim7 := { stood := { row := verifyHighUptoRow, standIns := [], harness := (true, "55edf9ffbf2856d7d84da91ef86d61846273d7531a332642084a1d30cb489ae3"), looks := false }, kinds := [], alts := [], laidByText := true, laidKinds := [.listed, .data], laidTests := true, laidLooks := .later }
def VerifyHighUptoCardSaid : Prop := Claim7.holds Tryd.pinned (.plain (OpenSpec.upto verifyHighSpec)) verifyHighUptoCard

/-- THE SECOND FORM's CARD OF 'sacristanlaw11.VerifyDead'. -/
def verifyDeadUptoCard : Claim7 := { stood := { row := verifyDeadUptoRow, standIns := [], harness := (true, "55edf9ffbf2856d7d84da91ef86d61846273d7531a332642084a1d30cb489ae3"), looks := false }, kinds := [], alts := [], laidByText := true, laidKinds := [.listed, .data], laidTests := true, laidLooks := .later }
def VerifyDeadUptoCardSaid : Prop := Claim7.holds Tryd.pinned (.plain (OpenSpec.upto verifyDeadSpec)) verifyDeadUptoCard

/-- THE SECOND FORM's CARD OF 'sacristanlaw11.VerifyMore'. -/
def verifyMoreUptoCard : Claim7 := { stood := { row := verifyMoreUptoRow, standIns := [], harness := (true, "55edf9ffbf2856d7d84da91ef86d61846273d7531a332642084a1d30cb489ae3"), looks := false }, kinds := [], alts := [], laidByText := true, laidKinds := [.listed, .data], laidTests := true, laidLooks := .later }
def VerifyMoreUptoCardSaid : Prop := Claim7.holds Tryd.pinned (.plain (OpenSpec.upto verifyMoreSpec)) verifyMoreUptoCard

/-- THE SECOND FORM's CARD OF 'sacristanlaw11.VerifyPairs'. -/
def verifyPairsUptoCard : Claim7 := { stood := { row := verifyPairsUptoRow, standIns := [], harness := (true, "55edf9ffbf2856d7d84da91ef86d61846273d7531a332642084a1d30cb489ae3"), looks := false }, kinds := [], alts := [], laidByText := true, laidKinds := [.listed, .data], laidTests := true, laidLooks := .later }
def VerifyPairsUptoCardSaid : Prop := Claim7.holds Tryd.pinned (.plain (OpenSpec.upto verifyPairsSpec)) verifyPairsUptoCard

/-- THE SECOND FORM's CARD OF 'sacristanlaw19.GuessWays'. -/
def guessWaysUptoCard : Claim7 := { stood := { row := guessWaysUptoRow, standIns := [], harness := (true, "55edf9ffbf2856d7d84da91ef86d61846273d7531a332642084a1d30cb489ae3"), looks := false }, kinds := [], alts := [], laidByText := true, laidKinds := [.listed, .data], laidTests := true, laidLooks := .later }
def GuessWaysUptoCardSaid : Prop := Claim7.holds Tryd.pinned (.plain (OpenSpec.upto guessWaysSpec)) guessWaysUptoCard

/-- THE SECOND FORM's CARD OF 'sacristanlaw19.GuessPure'. -/
def guessPureUptoCard : Claim7 := { stood := { row := guessPureUptoRow, standIns := [], harness := (true, "55edf9ffbf2856d7d84da91ef86d61846273d7531a332642084a1d30cb489ae3"), looks := false }, kinds := [], alts := [], laidByText := true, laidKinds := [.listed, .data], laidTests := true, laidLooks := .later }
def GuessPureUptoCardSaid : Prop := Claim7.holds Tryd.pinned (.plain (OpenSpec.upto guessPureSpec)) guessPureUptoCard

/-- THE SECOND FORM's CARD OF 'sacristanlaw19.GuessSafe'. -/
def guessSafeUptoCard : Claim7 := { stood := { row := guessSafeUptoRow, standIns := [], harness := (true, "55edf9ffbf2856d7d84da91ef86d61846273d7531a332642084a1d30cb489ae3"), looks := false }, kinds := [], alts := [], laidByText := true, laidKinds := [.listed, .data], laidTests := true, laidLooks := .later }
def GuessSafeUptoCardSaid : Prop := Claim7.holds Tryd.pinned (.plain (OpenSpec.upto guessSafeSpec)) guessSafeUptoCard

/-- THE SECOND FORM's CARD OF 'sacristanlaw19.GuessStraight'. -/
def guessStraightUptoCard : Claim7 := { stood := { row := guessStraightUptoRow, standIns := [], harness := (true, "55edf9ffbf2856d7d84da91ef86d61846273d7531a332642084a1d30cb489ae3"), looks := false }, kinds := [], alts := [], laidByText := true, laidKinds := [.listed, .data], laidTests := true, laidLooks := .later }
def GuessStraightUptoCardSaid : Prop := Claim7.holds Tryd.pinned (.plain (OpenSpec.upto guessStraightSpec)) guessStraightUptoCard
end Rows
end Go.Proofs.YtfncoldcjhkhiaaDoor
