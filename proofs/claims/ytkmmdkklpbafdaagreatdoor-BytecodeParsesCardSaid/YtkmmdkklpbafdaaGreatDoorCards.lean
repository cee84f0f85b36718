/-
  DERIVED. GIVEN WITH THE SEED: THE CARDS: each row of YtkmmdkklpbafdaaGreatDoorRows.lean that lists a variable, with what it lists TIED to the program's text (the seventh form; the later family's looks); each row that meets fmt, with fmt's text TOLD by the authors' own Lean function (tested against real Go, not proved from fmt's source: count such statements apart). THE CARD IS WHAT COUNTS. Prove the row's statement (the work); the ties are given (YtkmmdkklpbafdaaGreatDoorTie.lean); close each card by the builder's one call (the guide's Derived/Test/ToyasCard.lean, 'card_holds'). Laid BY PROGRAM, IN A SANDBOX (cutbox-door.mjs). By AI agents, Wed Nov 11 2026. No macro, syntax, notation, axiom, sorry.
-/
import Derived.Test.YtkmmdkklpbafdaaGreatDoorRows
import GoSem.ClaimSeven
namespace Go.Proofs.YtkmmdkklpbafdaaGreatDoor
namespace Rows

/-- THE TIED CARD OF 'clockworklaw16.BytecodeRoundTrips'. -/
def bytecodeRoundTripsCard : Claim7 := { stood := { row := bytecodeRoundTripsRow, standIns := [], harness := (true, "18b1c0f9856862c587d49f4bd47e3248143605d69309034f6bbd487ce1c72788"), looks := true }, kinds := [], alts := [], laidByText := true, laidKinds := [.data, .data, .data, .data, .sentinel, .sentinel, .listed, .data, .pinned], laidTests := true, laidLooks := .later }
def BytecodeRoundTripsCardSaid : Prop := Claim7.holds Tryz.pinned (.plain (OpenSpec.ofChange bytecodeRoundTripsSpec)) bytecodeRoundTripsCard

/-- THE TIED CARD OF 'clockworklaw16.BytecodeNames'. -/
def bytecodeNamesCard : Claim7 := { stood := { row := bytecodeNamesRow, standIns := [], harness := (true, "18b1c0f9856862c587d49f4bd47e3248143605d69309034f6bbd487ce1c72788"), looks := true }, kinds := [], alts := [], laidByText := true, laidKinds := [.data, .data, .data, .data, .sentinel, .sentinel, .listed, .data, .pinned], laidTests := true, laidLooks := .later }
def BytecodeNamesCardSaid : Prop := Claim7.holds Tryz.pinned (.plain (OpenSpec.ofChange bytecodeNamesSpec)) bytecodeNamesCard

/-- THE TIED CARD OF 'clockworklaw16.BytecodeParses'. -/
def bytecodeParsesCard : Claim7 := { stood := { row := bytecodeParsesRow, standIns := [], harness := (true, "18b1c0f9856862c587d49f4bd47e3248143605d69309034f6bbd487ce1c72788"), looks := true }, kinds := [], alts := [], laidByText := true, laidKinds := [.data, .data, .data, .data, .sentinel, .sentinel, .listed, .data, .pinned], laidTests := true, laidLooks := .later }
def BytecodeParsesCardSaid : Prop := Claim7.holds Tryz.pinned (.plain (OpenSpec.ofChange bytecodeParsesSpec)) bytecodeParsesCard

/-- THE TIED CARD OF 'clockworklaw16.BytecodeTexts'. -/
def bytecodeTextsCard : Claim7 := { stood := { row := bytecodeTextsRow, standIns := [], harness := (true, "18b1c0f9856862c587d49f4bd47e3248143605d69309034f6bbd487ce1c72788"), looks := true }, kinds := [], alts := [], laidByText := true, laidKinds := [.data, .data, .data, .data, .sentinel, .sentinel, .listed, .data, .pinned], laidTests := true, laidLooks := .later }
def BytecodeTextsCardSaid : Prop := Claim7.holds Tryz.pinned (.plain (OpenSpec.ofChange bytecodeTextsSpec)) bytecodeTextsCard

/-- THE TIED CARD OF 'clockworklaw16.BytecodeStack'. -/
def bytecodeStackCard : Claim7 := { stood := { row := bytecodeStackRow, standIns := [], harness := (true, "18b1c0f9856862c587d49f4bd47e3248143605d69309034f6bbd487ce1c72788"), looks := true }, kinds := [], alts := [], laidByText := true, laidKinds := [.data, .data, .data, .data, .sentinel, .sentinel, .listed, .data, .pinned], laidTests := true, laidLooks := .later }
def BytecodeStackCardSaid : Prop := Claim7.holds Tryz.pinned (.plain (OpenSpec.ofChange bytecodeStackSpec)) bytecodeStackCard

/-- THE TIED CARD OF 'clockworklaw16.BytecodeFormats'. -/
def bytecodeFormatsCard : Claim7 := { stood := { row := bytecodeFormatsRow, standIns := [], harness := (true, "18b1c0f9856862c587d49f4bd47e3248143605d69309034f6bbd487ce1c72788"), looks := true }, kinds := [], alts := [], laidByText := true, laidKinds := [.data, .data, .data, .data, .sentinel, .sentinel, .listed, .data, .pinned], laidTests := true, laidLooks := .later }
def BytecodeFormatsCardSaid : Prop := Claim7.holds Tryz.pinned (.plain (OpenSpec.ofChange bytecodeFormatsSpec)) bytecodeFormatsCard

/-- THE TIED CARD OF 'clockworklaw16.BytecodeValidates'. -/
def bytecodeValidatesCard : Claim7 := { stood := { row := bytecodeValidatesRow, standIns := [], harness := (true, "18b1c0f9856862c587d49f4bd47e3248143605d69309034f6bbd487ce1c72788"), looks := true }, kinds := [], alts := [], laidByText := true, laidKinds := [.data, .data, .data, .data, .sentinel, .sentinel, .listed, .data, .pinned], laidTests := true, laidLooks := .later }
def BytecodeValidatesCardSaid : Prop := Claim7.holds Tryz.pinned (.plain (OpenSpec.ofChange bytecodeValidatesSpec)) bytecodeValidatesCard

/-- THE SECOND FORM's CARD OF 'clockworklaw16.BytecodeRoundTrips'. -/
def bytecodeRoundTripsUptoCard : Claim7 := { stood := { row := bytecodeRoundTripsUptoRow, standIns := [], harness := (true, "18b1c0f9856862c587d49f4bd47e3248143605d69309034f6bbd487ce1c72788"), looks := true }, kinds := [], alts := [], laidByText := true, laidKinds := [.data, .data, .data, .data, .sentinel, .sentinel, .listed, .data, .pinned], laidTests := true, laidLooks := .later }
def BytecodeRoundTripsUptoCardSaid : Prop := Claim7.holds Tryz.pinned (.plain (OpenSpec.upto bytecodeRoundTripsSpec)) bytecodeRoundTripsUptoCard

/-- THE SECOND FORM's CARD OF 'clockworklaw16.BytecodeNames'. -/
def bytecodeNamesUptoCard : Claim7 := { stood := { row := bytecodeNamesUptoRow, standIns := [], harness := (true, "18b1c0f9856862c587d49f4bd47e3248143605d69309034f6bbd487ce1c72788"), looks := true }, kinds := [], alts := [], laidByText := true, laidKinds := [.data, .data, .data, .data, .sentinel, .sentinel, .listed, .data, .pinned], laidTests := true, laidLooks := .later }
def BytecodeNamesUptoCardSaid : Prop := Claim7.holds Tryz.pinned (.plain (OpenSpec.upto bytecodeNamesSpec)) bytecodeNamesUptoCard

/-- THE SECOND FORM's CARD OF 'clockworklaw16.BytecodeParses'. -/
def bytecodeParsesUptoCard : Claim7 := { stood := { row := bytecodeParsesUptoRow, standIns := [], harness := (true, "18b1c0f9856862c587d49f4bd47e3248143605d69309034f6bbd487ce1c72788"), looks := true }, kinds := [], alts := [], laidByText := true, laidKinds := [.data, .data, .data, .data, .sentinel, .sentinel, .listed, .data, .pinned], laidTests := true, laidLooks := .later }
def BytecodeParsesUptoCardSaid : Prop := Claim7.holds Tryz.pinned (.plain (OpenSpec.upto bytecodeParsesSpec)) bytecodeParsesUptoCard

/-- THE SECOND FORM's CARD OF 'clockworklaw16.BytecodeTexts'. -/
def bytecodeTextsUptoCard : Claim7 := { stood := { row := bytecodeTextsUptoRow, standIns := [], harness := (true, "18b1c0f9856862c587d49f4bd47e3248143605d69309034f6bbd487ce1c72788"), looks := true }, kinds := [], alts := [], laidByText := true, laidKinds := [.data, .data, .data, .data, .sentinel, .sentinel, .listed, .data, .pinned], laidTests := true, laidLooks := .later }
def BytecodeTextsUptoCardSaid : Prop := Claim7.holds Tryz.pinned (.plain (OpenSpec.upto bytecodeTextsSpec)) bytecodeTextsUptoCard

/-- THE SECOND FORM's CARD OF 'clockworklaw16.BytecodeStack'. -/
def bytecodeStackUptoCard : Claim7 := { stood := { row := bytecodeStackUptoRow, standIns := [], harness := (true, "18b1c0f9856862c587d49f4bd47e3248143605d69309034f6bbd487ce1c72788"), looks := true }, kinds := [], alts := [], laidByText := true, laidKinds := [.data, .data, .data, .data, .sentinel, .sentinel, .listed, .data, .pinned], laidTests := true, laidLooks := .later }
def BytecodeStackUptoCardSaid : Prop := Claim7.holds Tryz.pinned (.plain (OpenSpec.upto bytecodeStackSpec)) bytecodeStackUptoCard

/-- THE SECOND FORM's CARD OF 'clockworklaw16.BytecodeFormats'. -/
def bytecodeFormatsUptoCard : Claim7 := { stood := { row := bytecodeFormatsUptoRow, standIns := [], harness := (true, "18b1c0f9856862c587d49f4bd47e3248143605d69309034f6bbd487ce1c72788"), looks := true }, kinds := [], alts := [], laidByText := true, laidKinds := [.data, .data, .data, .data, .sentinel, .sentinel, .listed, .data, .pinned], laidTests := true, laidLooks := .later }
def BytecodeFormatsUptoCardSaid : Prop := Claim7.holds Tryz.pinned (.plain (OpenSpec.upto bytecodeFormatsSpec)) bytecodeFormatsUptoCard

/-- THE SECOND FORM's CARD OF 'clockworklaw16.BytecodeValidates'. -/
def bytecodeValidatesUptoCard : Claim7 := { stood := { row := bytecodeValidatesUptoRow, standIns := [], harness := (true, "18b1c0f9856862c587d49f4bd47e3248143605d69309034f6bbd487ce1c72788"), looks := true }, kinds := [], alts := [], laidByText := true, laidKinds := [.data, .data, .data, .data, .sentinel, .sentinel, .listed, .data, .pinned], laidTests := true, laidLooks := .later }
def BytecodeValidatesUptoCardSaid : Prop := Claim7.holds Tryz.pinned (.plain (OpenSpec.upto bytecodeValidatesSpec)) bytecodeValidatesUptoCard
end Rows
end Go.Proofs.YtkmmdkklpbafdaaGreatDoor
