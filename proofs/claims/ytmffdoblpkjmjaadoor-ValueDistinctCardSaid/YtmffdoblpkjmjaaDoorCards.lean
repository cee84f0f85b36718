/-
  DERIVED. GIVEN WITH THE SEED: THE CARDS: each row of YtmffdoblpkjmjaaDoorRows.lean that lists a variable, with what it lists TIED to the program's text (the seventh form; the later family's looks); each row that meets fmt, with fmt's text TOLD by the authors' own Lean function (tested against real Go, not proved from fmt's source: count such statements apart). THE CARD IS WHAT COUNTS. Prove the row's statement (the work); the ties are given (YtmffdoblpkjmjaaDoorTie.lean); close each card by the builder's one call (the guide's Derived/Test/ToyasCard.lean, 'card_holds'). Laid BY PROGRAM, IN A SANDBOX (cutbox-door.mjs). By AI agents, Wed Nov 11 2026. No macro, syntax, notation, axiom, sorry.
-/
import Derived.Test.YtmffdoblpkjmjaaDoorRows
import GoSem.ClaimSeven
namespace Go.Proofs.YtmffdoblpkjmjaaDoor
namespace Rows

/-- THE TIED CARD OF 'clockworklaw05.ValueMakes'. -/
def valueMakesCard : Claim7 := { stood := { row := valueMakesRow, standIns := [], harness := (true, "42eefe239ed22d1e0c888b910159649413962940d274d288c0cbf3904b650f5c"), looks := true }, kinds := [], alts := [], laidByText := true, laidKinds := [.data, .data, .data, .sentinel, .sentinel], laidTests := true, laidLooks := .later }
def ValueMakesCardSaid : Prop := Claim7.holds Tryd.pinned (.plain (OpenSpec.ofChange valueMakesSpec)) valueMakesCard

/-- THE TIED CARD OF 'clockworklaw05.ValueCompares'. -/
def valueComparesCard : Claim7 := { stood := { row := valueComparesRow, standIns := [], harness := (true, "42eefe239ed22d1e0c888b910159649413962940d274d288c0cbf3904b650f5c"), looks := true }, kinds := [], alts := [], laidByText := true, laidKinds := [.data, .data, .data, .sentinel, .sentinel], laidTests := true, laidLooks := .later }
def ValueComparesCardSaid : Prop := Claim7.holds Tryd.pinned (.plain (OpenSpec.ofChange valueComparesSpec)) valueComparesCard

/-- THE TIED CARD OF 'clockworklaw05.ValueFormats'. -/
def valueFormatsCard : Claim7 := { stood := { row := valueFormatsRow, standIns := [], harness := (true, "42eefe239ed22d1e0c888b910159649413962940d274d288c0cbf3904b650f5c"), looks := true }, kinds := [], alts := [], laidByText := true, laidKinds := [.data, .data, .data, .sentinel, .sentinel], laidTests := true, laidLooks := .later }
def ValueFormatsCardSaid : Prop := Claim7.holds Tryd.pinned (.plain (OpenSpec.ofChange valueFormatsSpec)) valueFormatsCard

/-- THE TIED CARD OF 'clockworklaw05.ValueParses'. -/
def valueParsesCard : Claim7 := { stood := { row := valueParsesRow, standIns := [], harness := (true, "42eefe239ed22d1e0c888b910159649413962940d274d288c0cbf3904b650f5c"), looks := true }, kinds := [], alts := [], laidByText := true, laidKinds := [.data, .data, .data, .sentinel, .sentinel], laidTests := true, laidLooks := .later }
def ValueParsesCardSaid : Prop := Claim7.holds Tryd.pinned (.plain (OpenSpec.ofChange valueParsesSpec)) valueParsesCard

/-- THE TIED CARD OF 'clockworklaw05.ValueEncodes'. -/
def valueEncodesCard : Claim7 := { stood := { row := valueEncodesRow, standIns := [], harness := (true, "42eefe239ed22d1e0c888b910159649413962940d274d288c0cbf3904b650f5c"), looks := true }, kinds := [], alts := [], laidByText := true, laidKinds := [.data, .data, .data, .sentinel, .sentinel], laidTests := true, laidLooks := .later }
def ValueEncodesCardSaid : Prop := Claim7.holds Tryd.pinned (.plain (OpenSpec.ofChange valueEncodesSpec)) valueEncodesCard

/-- THE TIED CARD OF 'clockworklaw05.ValueDistinct'. -/
def valueDistinctCard : Claim7 := { stood := { row := valueDistinctRow, standIns := [], harness := (true, "42eefe239ed22d1e0c888b910159649413962940d274d288c0cbf3904b650f5c"), looks := true }, kinds := [], alts := [], laidByText := true, laidKinds := [.data, .data, .data, .sentinel, .sentinel], laidTests := true, laidLooks := .later }
def ValueDistinctCardSaid : Prop := Claim7.holds Tryd.pinned (.plain (OpenSpec.ofChange valueDistinctSpec)) valueDistinctCard

/-- THE TIED CARD OF 'clockworklaw05.ValueDecodes'. -/
def valueDecodesCard : Claim7 := { stood := { row := valueDecodesRow, standIns := [], harness := (true, "42eefe239ed22d1e0c888b910159649413962940d274d288c0cbf3904b650f5c"), looks := true }, kinds := [], alts := [], laidByText := true, laidKinds := [.data, .data, .data, .sentinel, .sentinel], laidTests := true, laidLooks := .later }
def ValueDecodesCardSaid : Prop := Claim7.holds Tryd.pinned (.plain (OpenSpec.ofChange valueDecodesSpec)) valueDecodesCard

/-- THE TIED CARD OF 'clockworklaw05.ValueRoundTrips'. -/
def valueRoundTripsCard : Claim7 := { stood := { row := valueRoundTripsRow, standIns := [], harness := (true, "42eefe239ed22d1e0c888b910159649413962940d274d288c0cbf3904b650f5c"), looks := true }, kinds := [], alts := [], laidByText := true, laidKinds := [.data, .data, .data, .sentinel, .sentinel], laidTests := true, laidLooks := .later }
def ValueRoundTripsCardSaid : Prop := Claim7.holds Tryd.pinned (.plain (OpenSpec.ofChange valueRoundTripsSpec)) valueRoundTripsCard

/-- THE SECOND FORM's CARD OF 'clockworklaw05.ValueMakes'. -/
def valueMakesUptoCard : Claim7 := { stood := { row := valueMakesUptoRow, standIns := [], harness := (true, "42eefe239ed22d1e0c888b910159649413962940d274d288c0cbf3904b650f5c"), looks := true }, kinds := [], alts := [], laidByText := true, laidKinds := [.data, .data, .data, .sentinel, .sentinel], laidTests := true, laidLooks := .later }
def ValueMakesUptoCardSaid : Prop := Claim7.holds Tryd.pinned (.plain (OpenSpec.upto valueMakesSpec)) valueMakesUptoCard

/-- THE SECOND FORM's CARD OF 'clockworklaw05.ValueCompares'. -/
def valueComparesUptoCard : Claim7 := { stood := { row := valueComparesUptoRow, standIns := [], harness := (true, "42eefe239ed22d1e0c888b910159649413962940d274d288c0cbf3904b650f5c"), looks := true }, kinds := [], alts := [], laidByText := true, laidKinds := [.data, .data, .data, .sentinel, .sentinel], laidTests := true, laidLooks := .later }
def ValueComparesUptoCardSaid : Prop := Claim7.holds Tryd.pinned (.plain (OpenSpec.upto valueComparesSpec)) valueComparesUptoCard

/-- THE SECOND FORM's CARD OF 'clockworklaw05.ValueFormats'. -/
def valueFormatsUptoCard : Claim7 := { stood := { row := valueFormatsUptoRow, standIns := [], harness := (true, "42eefe239ed22d1e0c888b910159649413962940d274d288c0cbf3904b650f5c"), looks := true }, kinds := [], alts := [], laidByText := true, laidKinds := [.data, .data, .data, .sentinel, .sentinel], laidTests := true, laidLooks := .later }
def ValueFormatsUptoCardSaid : Prop := Claim7.holds Tryd.pinned (.plain (OpenSpec.upto valueFormatsSpec)) valueFormatsUptoCard

/-- THE SECOND FORM's CARD OF 'clockworklaw05.ValueParses'. -/
def valueParsesUptoCard : Claim7 := { stood := { row := valueParsesUptoRow, standIns := [], harness := (true, "42eefe239ed22d1e0c888b910159649413962940d274d288c0cbf3904b650f5c"), looks := true }, kinds := [], alts := [], laidByText := true, laidKinds := [.data, .data, .data, .sentinel, .sentinel], laidTests := true, laidLooks := .later }
def ValueParsesUptoCardSaid : Prop := Claim7.holds Tryd.pinned (.plain (OpenSpec.upto valueParsesSpec)) valueParsesUptoCard

/-- THE SECOND FORM's CARD OF 'clockworklaw05.ValueEncodes'. -/
def valueEncodesUptoCard : Claim7 := { stood := { row := valueEncodesUptoRow, standIns := [], harness := (true, "42eefe239ed22d1e0c888b910159649413962940d274d288c0cbf3904b650f5c"), looks := true }, kinds := [], alts := [], laidByText := true, laidKinds := [.data, .data, .data, .sentinel, .sentinel], laidTests := true, laidLooks := .later }
def ValueEncodesUptoCardSaid : Prop := Claim7.holds Tryd.pinned (.plain (OpenSpec.upto valueEncodesSpec)) valueEncodesUptoCard

/-- THE SECOND FORM's CARD OF 'clockworklaw05.ValueDistinct'. -/
def valueDistinctUptoCard : Claim7 := { stood := { row := valueDistinctUptoRow, standIns := [], harness := (true, "42eefe239ed22d1e0c888b910159649413962940d274d288c0cbf3904b650f5c"), looks := true }, kinds := [], alts := [], laidByText := true, laidKinds := [.data, .data, .data, .sentinel, .sentinel], laidTests := true, laidLooks := .later }
def ValueDistinctUptoCardSaid : Prop := Claim7.holds Tryd.pinned (.plain (OpenSpec.upto valueDistinctSpec)) valueDistinctUptoCard

/-- THE SECOND FORM's CARD OF 'clockworklaw05.ValueDecodes'. -/
def valueDecodesUptoCard : Claim7 := { stood := { row := valueDecodesUptoRow, standIns := [], harness := (true, "42eefe239ed22d1e0c888b910159649413962940d274d288c0cbf3904b650f5c"), looks := true }, kinds := [], alts := [], laidByText := true, laidKinds := [.data, .data, .data, .sentinel, .sentinel], laidTests := true, laidLooks := .later }
def ValueDecodesUptoCardSaid : Prop := Claim7.holds Tryd.pinned (.plain (OpenSpec.upto valueDecodesSpec)) valueDecodesUptoCard

/-- THE SECOND FORM's CARD OF 'clockworklaw05.ValueRoundTrips'. -/
def valueRoundTripsUptoCard : Claim7 := { stood := { row := valueRoundTripsUptoRow, standIns := [], harness := (true, "42eefe239ed22d1e0c888b910159649413962940d274d288c0cbf3904b650f5c"), looks := true }, kinds := [], alts := [], laidByText := true, laidKinds := [.data, .data, .data, .sentinel, .sentinel], laidTests := true, laidLooks := .later }
def ValueRoundTripsUptoCardSaid : Prop := Claim7.holds Tryd.pinned (.plain (OpenSpec.upto valueRoundTripsSpec)) valueRoundTripsUptoCard
end Rows
end Go.Proofs.YtmffdoblpkjmjaaDoor
