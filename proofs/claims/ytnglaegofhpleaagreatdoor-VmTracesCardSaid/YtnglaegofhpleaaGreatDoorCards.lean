/-
  DERIVED. GIVEN WITH THE SEED: THE CARDS: each row of YtnglaegofhpleaaGreatDoorRows.lean that lists a variable, with what it lists TIED to the program's text (the seventh form; the later family's looks); each row that meets fmt, with fmt's text TOLD by the authors' own Lean function (tested against real Go, not proved from fmt's source: count such statements apart). THE CARD IS WHAT COUNTS. Prove the row's statement (the work); the ties are given (YtnglaegofhpleaaGreatDoorTie.lean); close each card by the builder's one call (the guide's Derived/Test/ToyasCard.lean, 'card_holds'). Laid BY PROGRAM, IN A SANDBOX (cutbox-door.mjs). By AI agents, Wed Nov 11 2026. No macro, syntax, notation, axiom, sorry.
-/
import Derived.Test.YtnglaegofhpleaaGreatDoorRows
import GoSem.ClaimSeven
namespace Go.Proofs.YtnglaegofhpleaaGreatDoor
namespace Rows

/-- THE TIED CARD OF 'clockworklaw18.VmRuns'. -/
def vmRunsCard : Claim7 := { stood := { row := vmRunsRow, standIns := [], harness := (true, "f6606f828af381ea877188066f75d7475be1430522b8eaf2eb05caafa3b61e43"), looks := true }, kinds := [], alts := [], laidByText := true, laidKinds := [.data, .data, .data, .listed, .data], laidTests := true, laidLooks := .later }
def VmRunsCardSaid : Prop := Claim7.holds Tryz.pinned (.plain (OpenSpec.ofChange vmRunsSpec)) vmRunsCard

/-- THE TIED CARD OF 'clockworklaw18.VmTraces'. -/
def vmTracesCard : Claim7 := { stood := { row := vmTracesRow, standIns := [], harness := (true, "f6606f828af381ea877188066f75d7475be1430522b8eaf2eb05caafa3b61e43"), looks := true }, kinds := [], alts := [], laidByText := true, laidKinds := [.data, .data, .data, .listed, .data], laidTests := true, laidLooks := .later }
def VmTracesCardSaid : Prop := Claim7.holds Tryz.pinned (.plain (OpenSpec.ofChange vmTracesSpec)) vmTracesCard

/-- THE TIED CARD OF 'clockworklaw18.VmSteps'. -/
def vmStepsCard : Claim7 := { stood := { row := vmStepsRow, standIns := [], harness := (true, "f6606f828af381ea877188066f75d7475be1430522b8eaf2eb05caafa3b61e43"), looks := true }, kinds := [], alts := [], laidByText := true, laidKinds := [.data, .data, .data, .listed, .data], laidTests := true, laidLooks := .later }
def VmStepsCardSaid : Prop := Claim7.holds Tryz.pinned (.plain (OpenSpec.ofChange vmStepsSpec)) vmStepsCard

/-- THE TIED CARD OF 'clockworklaw18.VmLocal'. -/
def vmLocalCard : Claim7 := { stood := { row := vmLocalRow, standIns := [], harness := (true, "f6606f828af381ea877188066f75d7475be1430522b8eaf2eb05caafa3b61e43"), looks := true }, kinds := [], alts := [], laidByText := true, laidKinds := [.data, .data, .data, .listed, .data], laidTests := true, laidLooks := .later }
def VmLocalCardSaid : Prop := Claim7.holds Tryz.pinned (.plain (OpenSpec.ofChange vmLocalSpec)) vmLocalCard

/-- THE SECOND FORM's CARD OF 'clockworklaw18.VmRuns'. -/
def vmRunsUptoCard : Claim7 := { stood := { row := vmRunsUptoRow, standIns := [], harness := (true, "f6606f828af381ea877188066f75d7475be1430522b8eaf2eb05caafa3b61e43"), looks := true }, kinds := [], alts := [], laidByText := true, laidKinds := [.data, .data, .data, .listed, .data], laidTests := true, laidLooks := .later }
def VmRunsUptoCardSaid : Prop := Claim7.holds Tryz.pinned (.plain (OpenSpec.upto vmRunsSpec)) vmRunsUptoCard

/-- THE SECOND FORM's CARD OF 'clockworklaw18.VmTraces'. -/
def vmTracesUptoCard : Claim7 := { stood := { row := vmTracesUptoRow, standIns := [], harness := (true, "f6606f828af381ea877188066f75d7475be1430522b8eaf2eb05caafa3b61e43"), looks := true }, kinds := [], alts := [], laidByText := true, laidKinds := [.data, .data, .data, .listed, .data], laidTests := true, laidLooks := .later }
def VmTracesUptoCardSaid : Prop := Claim7.holds Tryz.pinned (.plain (OpenSpec.upto vmTracesSpec)) vmTracesUptoCard

/-- THE SECOND FORM's CARD OF 'clockworklaw18.VmSteps'. -/
def vmStepsUptoCard : Claim7 := { stood := { row := vmStepsUptoRow, standIns := [], harness := (true, "f6606f828af381ea877188066f75d7475be1430522b8eaf2eb05caafa3b61e43"), looks := true }, kinds := [], alts := [], laidByText := true, laidKinds := [.data, .data, .data, .listed, .data], laidTests := true, laidLooks := .later }
def VmStepsUptoCardSaid : Prop := Claim7.holds Tryz.pinned (.plain (OpenSpec.upto vmStepsSpec)) vmStepsUptoCard

/-- THE SECOND FORM's CARD OF 'clockworklaw18.VmLocal'. -/
def vmLocalUptoCard : Claim7 := { stood := { row := vmLocalUptoRow, standIns := [], harness := (true, "f6606f828af381ea877188066f75d7475be1430522b8eaf2eb05caafa3b61e43"), looks := true }, kinds := [], alts := [], laidByText := true, laidKinds := [.data, .data, .data, .listed, .data], laidTests := true, laidLooks := .later }
def VmLocalUptoCardSaid : Prop := Claim7.holds Tryz.pinned (.plain (OpenSpec.upto vmLocalSpec)) vmLocalUptoCard
end Rows
end Go.Proofs.YtnglaegofhpleaaGreatDoor
