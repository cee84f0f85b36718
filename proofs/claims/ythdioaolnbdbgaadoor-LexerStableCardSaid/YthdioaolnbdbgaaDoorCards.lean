/-
  DERIVED. GIVEN WITH THE SEED: THE CARDS: each row of YthdioaolnbdbgaaDoorRows.lean that lists a variable, with what it lists TIED to the program's text (the seventh form; the later family's looks); each row that meets fmt, with fmt's text TOLD by the authors' own Lean function (tested against real Go, not proved from fmt's source: count such statements apart). THE CARD IS WHAT COUNTS. Prove the row's statement (the work); the ties are given (YthdioaolnbdbgaaDoorTie.lean); close each card by the builder's one call (the guide's Derived/Test/ToyasCard.lean, 'card_holds'). Laid BY PROGRAM, IN A SANDBOX (cutbox-door.mjs). By AI agents, Wed Nov 11 2026. No macro, syntax, notation, axiom, sorry.
-/
import Derived.Test.YthdioaolnbdbgaaDoorRows
import GoSem.ClaimSeven
namespace Go.Proofs.YthdioaolnbdbgaaDoor
namespace Rows

/-- THE TIED CARD OF 'clockworklaw07.LexerWords'. -/
def lexerWordsCard : Claim7 := { stood := { row := lexerWordsRow, standIns := [], harness := (true, "f8ab063166fc841fdbcc7a618814bf3d7d190f6e1303815fd516c74589a79542"), looks := true }, kinds := [], alts := [], laidByText := true, laidKinds := [.data, .data, .data, .sentinel, .sentinel], laidTests := true, laidLooks := .later }
def LexerWordsCardSaid : Prop := Claim7.holds Tryd.pinned (.plain (OpenSpec.ofChange lexerWordsSpec)) lexerWordsCard

/-- THE TIED CARD OF 'clockworklaw07.LexerTokens'. -/
def lexerTokensCard : Claim7 := { stood := { row := lexerTokensRow, standIns := [], harness := (true, "f8ab063166fc841fdbcc7a618814bf3d7d190f6e1303815fd516c74589a79542"), looks := true }, kinds := [], alts := [], laidByText := true, laidKinds := [.data, .data, .data, .sentinel, .sentinel], laidTests := true, laidLooks := .later }
def LexerTokensCardSaid : Prop := Claim7.holds Tryd.pinned (.plain (OpenSpec.ofChange lexerTokensSpec)) lexerTokensCard

/-- THE TIED CARD OF 'clockworklaw07.LexerParts'. -/
def lexerPartsCard : Claim7 := { stood := { row := lexerPartsRow, standIns := [], harness := (true, "f8ab063166fc841fdbcc7a618814bf3d7d190f6e1303815fd516c74589a79542"), looks := true }, kinds := [], alts := [], laidByText := true, laidKinds := [.data, .data, .data, .sentinel, .sentinel], laidTests := true, laidLooks := .later }
def LexerPartsCardSaid : Prop := Claim7.holds Tryd.pinned (.plain (OpenSpec.ofChange lexerPartsSpec)) lexerPartsCard

/-- THE TIED CARD OF 'clockworklaw07.LexerJoinRoundTrip'. -/
def lexerJoinRoundTripCard : Claim7 := { stood := { row := lexerJoinRoundTripRow, standIns := [], harness := (true, "f8ab063166fc841fdbcc7a618814bf3d7d190f6e1303815fd516c74589a79542"), looks := true }, kinds := [], alts := [], laidByText := true, laidKinds := [.data, .data, .data, .sentinel, .sentinel], laidTests := true, laidLooks := .later }
def LexerJoinRoundTripCardSaid : Prop := Claim7.holds Tryd.pinned (.plain (OpenSpec.ofChange lexerJoinRoundTripSpec)) lexerJoinRoundTripCard

/-- THE TIED CARD OF 'clockworklaw07.LexerJoins'. -/
def lexerJoinsCard : Claim7 := { stood := { row := lexerJoinsRow, standIns := [], harness := (true, "f8ab063166fc841fdbcc7a618814bf3d7d190f6e1303815fd516c74589a79542"), looks := true }, kinds := [], alts := [], laidByText := true, laidKinds := [.data, .data, .data, .sentinel, .sentinel], laidTests := true, laidLooks := .later }
def LexerJoinsCardSaid : Prop := Claim7.holds Tryd.pinned (.plain (OpenSpec.ofChange lexerJoinsSpec)) lexerJoinsCard

/-- THE TIED CARD OF 'clockworklaw07.LexerStable'. -/
def lexerStableCard : Claim7 := { stood := { row := lexerStableRow, standIns := [], harness := (true, "f8ab063166fc841fdbcc7a618814bf3d7d190f6e1303815fd516c74589a79542"), looks := true }, kinds := [], alts := [], laidByText := true, laidKinds := [.data, .data, .data, .sentinel, .sentinel], laidTests := true, laidLooks := .later }
def LexerStableCardSaid : Prop := Claim7.holds Tryd.pinned (.plain (OpenSpec.ofChange lexerStableSpec)) lexerStableCard

/-- THE SECOND FORM's CARD OF 'clockworklaw07.LexerWords'. -/
def lexerWordsUptoCard : Claim7 := { stood := { row := lexerWordsUptoRow, standIns := [], harness := (true, "f8ab063166fc841fdbcc7a618814bf3d7d190f6e1303815fd516c74589a79542"), looks := true }, kinds := [], alts := [], laidByText := true, laidKinds := [.data, .data, .data, .sentinel, .sentinel], laidTests := true, laidLooks := .later }
def LexerWordsUptoCardSaid : Prop := Claim7.holds Tryd.pinned (.plain (OpenSpec.upto lexerWordsSpec)) lexerWordsUptoCard

/-- THE SECOND FORM's CARD OF 'clockworklaw07.LexerTokens'. -/
def lexerTokensUptoCard : Claim7 := { stood := { row := lexerTokensUptoRow, standIns := [], harness := (true, "f8ab063166fc841fdbcc7a618814bf3d7d190f6e1303815fd516c74589a79542"), looks := true }, kinds := [], alts := [], laidByText := true, laidKinds := [.data, .data, .data, .sentinel, .sentinel], laidTests := true, laidLooks := .later }
def LexerTokensUptoCardSaid : Prop := Claim7.holds Tryd.pinned (.plain (OpenSpec.upto lexerTokensSpec)) lexerTokensUptoCard

/-- THE SECOND FORM's CARD OF 'clockworklaw07.LexerParts'. -/
def lexerPartsUptoCard : Claim7 := { stood := { row := lexerPartsUptoRow, standIns := [], harness := (true, "f8ab063166fc841fdbcc7a618814bf3d7d190f6e1303815fd516c74589a79542"), looks := true }, kinds := [], alts := [], laidByText := true, laidKinds := [.data, .data, .data, .sentinel, .sentinel], laidTests := true, laidLooks := .later }
def LexerPartsUptoCardSaid : Prop := Claim7.holds Tryd.pinned (.plain (OpenSpec.upto lexerPartsSpec)) lexerPartsUptoCard

/-- THE SECOND FORM's CARD OF 'clockworklaw07.LexerJoinRoundTrip'. -/
def lexerJoinRoundTripUptoCard : Claim7 := { stood := { row := lexerJoinRoundTripUptoRow, standIns := [], harness := (true, "f8ab063166fc841fdbcc7a618814bf3d7d190f6e1303815fd516c74589a79542"), looks := true }, kinds := [], alts := [], laidByText := true, laidKinds := [.data, .data, .data, .sentinel, .sentinel], laidTests := true, laidLooks := .later }
def LexerJoinRoundTripUptoCardSaid : Prop := Claim7.holds Tryd.pinned (.plain (OpenSpec.upto lexerJoinRoundTripSpec)) lexerJoinRoundTripUptoCard

/-- THE SECOND FORM's CARD OF 'clockworklaw07.LexerJoins'. -/
def lexerJoinsUptoCard : Claim7 := { stood := { row := lexerJoinsUptoRow, standIns := [], harness := (true, "f8ab063166fc841fdbcc7a618814bf3d7d190f6e1303815fd516c74589a79542"), looks := true }, kinds := [], alts := [], laidByText := true, laidKinds := [.data, .data, .data, .sentinel, .sentinel], laidTests := true, laidLooks := .later }
def LexerJoinsUptoCardSaid : Prop := Claim7.holds Tryd.pinned (.plain (OpenSpec.upto lexerJoinsSpec)) lexerJoinsUptoCard

/-- THE SECOND FORM's CARD OF 'clockworklaw07.LexerStable'. -/
def lexerStableUptoCard : Claim7 := { stood := { row := lexerStableUptoRow, standIns := [], harness := (true, "f8ab063166fc841fdbcc7a618814bf3d7d190f6e1303815fd516c74589a79542"), looks := true }, kinds := [], alts := [], laidByText := true, laidKinds := [.data, .data, .data, .sentinel, .sentinel], laidTests := true, laidLooks := .later }
def LexerStableUptoCardSaid : Prop := Claim7.holds Tryd.pinned (.plain (OpenSpec.upto lexerStableSpec)) lexerStableUptoCard
end Rows
end Go.Proofs.YthdioaolnbdbgaaDoor
