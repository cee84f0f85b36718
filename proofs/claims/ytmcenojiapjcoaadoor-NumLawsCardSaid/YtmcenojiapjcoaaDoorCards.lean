/-
  DERIVED. GIVEN WITH THE SEED: THE CARDS: each row of YtmcenojiapjcoaaDoorRows.lean that lists a variable, with what it lists TIED to the program's text (the seventh form; the later family's looks); each row that meets fmt, with fmt's text TOLD by the authors' own Lean function (tested against real Go, not proved from fmt's source: count such statements apart). THE CARD IS WHAT COUNTS. Prove the row's statement (the work); the ties are given (YtmcenojiapjcoaaDoorTie.lean); close each card by the builder's one call (the guide's Derived/Test/ToyasCard.lean, 'card_holds'). Laid BY PROGRAM, IN A SANDBOX (cutbox-door.mjs). By AI agents, Wed Nov 11 2026. No macro, syntax, notation, axiom, sorry.
-/
import Derived.Test.YtmcenojiapjcoaaDoorRows
import GoSem.ClaimSeven
namespace Go.Proofs.YtmcenojiapjcoaaDoor
namespace Rows

/-- THE TIED CARD OF 'clockworklaw01.NumDivides'. -/
def numDividesCard : Claim7 := { stood := { row := numDividesRow, standIns := [], harness := (true, "2cfab9e9a3da2da6c3fa9705ab030db35c6a18f2e5bb30b4725e588b29a9a031"), looks := true }, kinds := [], alts := [], laidByText := true, laidKinds := [.data, .data, .data, .sentinel, .sentinel], laidTests := true, laidLooks := .later }
def NumDividesCardSaid : Prop := Claim7.holds Tryd.pinned (.plain (OpenSpec.ofChange numDividesSpec)) numDividesCard

/-- THE TIED CARD OF 'clockworklaw01.NumQuotients'. -/
def numQuotientsCard : Claim7 := { stood := { row := numQuotientsRow, standIns := [], harness := (true, "2cfab9e9a3da2da6c3fa9705ab030db35c6a18f2e5bb30b4725e588b29a9a031"), looks := true }, kinds := [], alts := [], laidByText := true, laidKinds := [.data, .data, .data, .sentinel, .sentinel], laidTests := true, laidLooks := .later }
def NumQuotientsCardSaid : Prop := Claim7.holds Tryd.pinned (.plain (OpenSpec.ofChange numQuotientsSpec)) numQuotientsCard

/-- THE TIED CARD OF 'clockworklaw01.NumFormats'. -/
def numFormatsCard : Claim7 := { stood := { row := numFormatsRow, standIns := [], harness := (true, "2cfab9e9a3da2da6c3fa9705ab030db35c6a18f2e5bb30b4725e588b29a9a031"), looks := true }, kinds := [], alts := [], laidByText := true, laidKinds := [.data, .data, .data, .sentinel, .sentinel], laidTests := true, laidLooks := .later }
def NumFormatsCardSaid : Prop := Claim7.holds Tryd.pinned (.plain (OpenSpec.ofChange numFormatsSpec)) numFormatsCard

/-- THE TIED CARD OF 'clockworklaw01.NumParses'. -/
def numParsesCard : Claim7 := { stood := { row := numParsesRow, standIns := [], harness := (true, "2cfab9e9a3da2da6c3fa9705ab030db35c6a18f2e5bb30b4725e588b29a9a031"), looks := true }, kinds := [], alts := [], laidByText := true, laidKinds := [.data, .data, .data, .sentinel, .sentinel], laidTests := true, laidLooks := .later }
def NumParsesCardSaid : Prop := Claim7.holds Tryd.pinned (.plain (OpenSpec.ofChange numParsesSpec)) numParsesCard

/-- THE TIED CARD OF 'clockworklaw01.NumRoundTrips'. -/
def numRoundTripsCard : Claim7 := { stood := { row := numRoundTripsRow, standIns := [], harness := (true, "2cfab9e9a3da2da6c3fa9705ab030db35c6a18f2e5bb30b4725e588b29a9a031"), looks := true }, kinds := [], alts := [], laidByText := true, laidKinds := [.data, .data, .data, .sentinel, .sentinel], laidTests := true, laidLooks := .later }
def NumRoundTripsCardSaid : Prop := Claim7.holds Tryd.pinned (.plain (OpenSpec.ofChange numRoundTripsSpec)) numRoundTripsCard

/-- THE TIED CARD OF 'clockworklaw01.NumAdds'. -/
def numAddsCard : Claim7 := { stood := { row := numAddsRow, standIns := [], harness := (true, "2cfab9e9a3da2da6c3fa9705ab030db35c6a18f2e5bb30b4725e588b29a9a031"), looks := true }, kinds := [], alts := [], laidByText := true, laidKinds := [.data, .data, .data, .sentinel, .sentinel], laidTests := true, laidLooks := .later }
def NumAddsCardSaid : Prop := Claim7.holds Tryd.pinned (.plain (OpenSpec.ofChange numAddsSpec)) numAddsCard

/-- THE TIED CARD OF 'clockworklaw01.NumMultiplies'. -/
def numMultipliesCard : Claim7 := { stood := { row := numMultipliesRow, standIns := [], harness := (true, "2cfab9e9a3da2da6c3fa9705ab030db35c6a18f2e5bb30b4725e588b29a9a031"), looks := true }, kinds := [], alts := [], laidByText := true, laidKinds := [.data, .data, .data, .sentinel, .sentinel], laidTests := true, laidLooks := .later }
def NumMultipliesCardSaid : Prop := Claim7.holds Tryd.pinned (.plain (OpenSpec.ofChange numMultipliesSpec)) numMultipliesCard

/-- THE TIED CARD OF 'clockworklaw01.NumLaws'. -/
def numLawsCard : Claim7 := { stood := { row := numLawsRow, standIns := [], harness := (true, "2cfab9e9a3da2da6c3fa9705ab030db35c6a18f2e5bb30b4725e588b29a9a031"), looks := true }, kinds := [], alts := [], laidByText := true, laidKinds := [.data, .data, .data, .sentinel, .sentinel], laidTests := true, laidLooks := .later }
def NumLawsCardSaid : Prop := Claim7.holds Tryd.pinned (.plain (OpenSpec.ofChange numLawsSpec)) numLawsCard

/-- THE SECOND FORM's CARD OF 'clockworklaw01.NumDivides'. -/
def numDividesUptoCard : Claim7 := { stood := { row := numDividesUptoRow, standIns := [], harness := (true, "2cfab9e9a3da2da6c3fa9705ab030db35c6a18f2e5bb30b4725e588b29a9a031"), looks := true }, kinds := [], alts := [], laidByText := true, laidKinds := [.data, .data, .data, .sentinel, .sentinel], laidTests := true, laidLooks := .later }
def NumDividesUptoCardSaid : Prop := Claim7.holds Tryd.pinned (.plain (OpenSpec.upto numDividesSpec)) numDividesUptoCard

/-- THE SECOND FORM's CARD OF 'clockworklaw01.NumQuotients'. -/
def numQuotientsUptoCard : Claim7 := { stood := { row := numQuotientsUptoRow, standIns := [], harness := (true, "2cfab9e9a3da2da6c3fa9705ab030db35c6a18f2e5bb30b4725e588b29a9a031"), looks := true }, kinds := [], alts := [], laidByText := true, laidKinds := [.data, .data, .data, .sentinel, .sentinel], laidTests := true, laidLooks := .later }
def NumQuotientsUptoCardSaid : Prop := Claim7.holds Tryd.pinned (.plain (OpenSpec.upto numQuotientsSpec)) numQuotientsUptoCard

/-- THE SECOND FORM's CARD OF 'clockworklaw01.NumFormats'. -/
def numFormatsUptoCard : Claim7 := { stood := { row := numFormatsUptoRow, standIns := [], harness := (true, "2cfab9e9a3da2da6c3fa9705ab030db35c6a18f2e5bb30b4725e588b29a9a031"), looks := true }, kinds := [], alts := [], laidByText := true, laidKinds := [.data, .data, .data, .sentinel, .sentinel], laidTests := true, laidLooks := .later }
def NumFormatsUptoCardSaid : Prop := Claim7.holds Tryd.pinned (.plain (OpenSpec.upto numFormatsSpec)) numFormatsUptoCard

/-- THE SECOND FORM's CARD OF 'clockworklaw01.NumParses'. -/
def numParsesUptoCard : Claim7 := { stood := { row := numParsesUptoRow, standIns := [], harness := (true, "2cfab9e9a3da2da6c3fa9705ab030db35c6a18f2e5bb30b4725e588b29a9a031"), looks := true }, kinds := [], alts := [], laidByText := true, laidKinds := [.data, .data, .data, .sentinel, .sentinel], laidTests := true, laidLooks := .later }
def NumParsesUptoCardSaid : Prop := Claim7.holds Tryd.pinned (.plain (OpenSpec.upto numParsesSpec)) numParsesUptoCard

/-- THE SECOND FORM's CARD OF 'clockworklaw01.NumRoundTrips'. -/
def numRoundTripsUptoCard : Claim7 := { stood := { row := numRoundTripsUptoRow, standIns := [], harness := (true, "2cfab9e9a3da2da6c3fa9705ab030db35c6a18f2e5bb30b4725e588b29a9a031"), looks := true }, kinds := [], alts := [], laidByText := true, laidKinds := [.data, .data, .data, .sentinel, .sentinel], laidTests := true, laidLooks := .later }
def NumRoundTripsUptoCardSaid : Prop := Claim7.holds Tryd.pinned (.plain (OpenSpec.upto numRoundTripsSpec)) numRoundTripsUptoCard

/-- THE SECOND FORM's CARD OF 'clockworklaw01.NumAdds'. -/
def numAddsUptoCard : Claim7 := { stood := { row := numAddsUptoRow, standIns := [], harness := (true, "2cfab9e9a3da2da6c3fa9705ab030db35c6a18f2e5bb30b4725e588b29a9a031"), looks := true }, kinds := [], alts := [], laidByText := true, laidKinds := [.data, .data, .data, .sentinel, .sentinel], laidTests := true, laidLooks := .later }
def NumAddsUptoCardSaid : Prop := Claim7.holds Tryd.pinned (.plain (OpenSpec.upto numAddsSpec)) numAddsUptoCard

/-- THE SECOND FORM's CARD OF 'clockworklaw01.NumMultiplies'. -/
def numMultipliesUptoCard : Claim7 := { stood := { row := numMultipliesUptoRow, standIns := [], harness := (true, "2cfab9e9a3da2da6c3fa9705ab030db35c6a18f2e5bb30b4725e588b29a9a031"), looks := true }, kinds := [], alts := [], laidByText := true, laidKinds := [.data, .data, .data, .sentinel, .sentinel], laidTests := true, laidLooks := .later }
def NumMultipliesUptoCardSaid : Prop := Claim7.holds Tryd.pinned (.plain (OpenSpec.upto numMultipliesSpec)) numMultipliesUptoCard

/-- THE SECOND FORM's CARD OF 'clockworklaw01.NumLaws'. -/
def numLawsUptoCard : Claim7 := { stood := { row := numLawsUptoRow, standIns := [], harness := (true, "2cfab9e9a3da2da6c3fa9705ab030db35c6a18f2e5bb30b4725e588b29a9a031"), looks := true }, kinds := [], alts := [], laidByText := true, laidKinds := [.data, .data, .data, .sentinel, .sentinel], laidTests := true, laidLooks := .later }
def NumLawsUptoCardSaid : Prop := Claim7.holds Tryd.pinned (.plain (OpenSpec.upto numLawsSpec)) numLawsUptoCard
end Rows
end Go.Proofs.YtmcenojiapjcoaaDoor
