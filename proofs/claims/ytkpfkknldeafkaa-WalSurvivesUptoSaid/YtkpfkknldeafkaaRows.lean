/-
  No cell of these rows narrows 'for every input' (looked for: loops, veiled, ifaces, maps, wideKeys, modest, calm, conditions, laid).
  DERIVED. THE GIVEN ROWS OF THIS SEAT. 13 by the template 'for every input the law returns true; each argument reads behind the call as it read before'; 0 by the template 'total and deterministic' (their statements: YtkpfkknldeafkaaTotals.lean).
  GIVEN WITH THE SEED: the statements are not yours to turn. If you find one false, say at which input.
  Laid BY PROGRAM, IN A SANDBOX (cutbox-rows.mjs): the forced cells as the released guide's own fill.sh prints them over the translation 1d886a910213a494… (all of the seat's roots in one cut). By AI agents, Wed Nov 11 2026. No macro, syntax, notation, axiom, sorry.
-/
import Derived.Test.YtkpfkknldeafkaaChecked
import GoSem.Claim
import GoSem.ClaimJoined
import GoSem.ClaimMapViews
import Derived.JoinedTies
import Derived.KernelRfl
namespace Go.Proofs.Ytkpfkknldeafkaa
/- THE CELL 'sum', in the pinned program and in every row, IS THE sha256 OF THE DUMP (.gsa) THAT YtkpfkknldeafkaaProg.lean LOADS. Nothing in Lean hashes anything: it is a label: what it is worth is what the hold of that sum in a sandbox is worth. -/
noncomputable def Try.pinned : Pinned := { name := "ytkpfkknldeafkaa", sum := "1d886a910213a49435d6264a1c52c4fc7cace86244620ecd5e395b9ef70308bd", checked := Try.checked }
namespace Rows
def none {H : Type} : Left H := { results := [], args := [] }

/-- 'clockworklaw46.SuperEncodes': WHATEVER THE INPUT: true; the input reads as it did. -/
def superEncodesSpec : ChangeSpec := { name := "superEncodes", fn := fun _ => fun
  | [d] => { results := [.lit (.bool true)], args := [d] }
  | _ => none }
def superEncodesRow : OpenClaim := { program := "ytkpfkknldeafkaa", sum := "1d886a910213a49435d6264a1c52c4fc7cace86244620ecd5e395b9ef70308bd", func := "clockwork/clockworklaw46.SuperEncodes", spec := "superEncodes", unfollowed := true, recurses := true, apart := false }
def SuperEncodesSaid : Prop := superEncodesRow.holds Try.pinned (OpenSpec.ofChange superEncodesSpec)

/-- ITS FALSE NEIGHBOUR: 'it returns false'. Refute it at one input. -/
def superEncodesWrong : ChangeSpec := { name := "superEncodes", fn := fun _ => fun
  | [d] => { results := [.lit (.bool false)], args := [d] }
  | _ => none }
def SuperEncodesWrongFalsely : Prop := superEncodesRow.holds Try.pinned (OpenSpec.ofChange superEncodesWrong)

/-- 'clockworklaw46.SuperDecodes': WHATEVER THE INPUT: true; the input reads as it did. -/
def superDecodesSpec : ChangeSpec := { name := "superDecodes", fn := fun _ => fun
  | [d] => { results := [.lit (.bool true)], args := [d] }
  | _ => none }
def superDecodesRow : OpenClaim := { program := "ytkpfkknldeafkaa", sum := "1d886a910213a49435d6264a1c52c4fc7cace86244620ecd5e395b9ef70308bd", func := "clockwork/clockworklaw46.SuperDecodes", spec := "superDecodes", unfollowed := true, recurses := true, apart := false }
def SuperDecodesSaid : Prop := superDecodesRow.holds Try.pinned (OpenSpec.ofChange superDecodesSpec)

/-- ITS FALSE NEIGHBOUR: 'it returns false'. Refute it at one input. -/
def superDecodesWrong : ChangeSpec := { name := "superDecodes", fn := fun _ => fun
  | [d] => { results := [.lit (.bool false)], args := [d] }
  | _ => none }
def SuperDecodesWrongFalsely : Prop := superDecodesRow.holds Try.pinned (OpenSpec.ofChange superDecodesWrong)

/-- 'clockworklaw46.SuperBest': WHATEVER THE INPUT: true; the input reads as it did. -/
def superBestSpec : ChangeSpec := { name := "superBest", fn := fun _ => fun
  | [d1, d2] => { results := [.lit (.bool true)], args := [d1, d2] }
  | _ => none }
def superBestRow : OpenClaim := { program := "ytkpfkknldeafkaa", sum := "1d886a910213a49435d6264a1c52c4fc7cace86244620ecd5e395b9ef70308bd", func := "clockwork/clockworklaw46.SuperBest", spec := "superBest", unfollowed := true, recurses := true, apart := false }
def SuperBestSaid : Prop := superBestRow.holds Try.pinned (OpenSpec.ofChange superBestSpec)

/-- ITS FALSE NEIGHBOUR: 'it returns false'. Refute it at one input. -/
def superBestWrong : ChangeSpec := { name := "superBest", fn := fun _ => fun
  | [d1, d2] => { results := [.lit (.bool false)], args := [d1, d2] }
  | _ => none }
def SuperBestWrongFalsely : Prop := superBestRow.holds Try.pinned (OpenSpec.ofChange superBestWrong)

/-- 'clockworklaw46.SuperStores': WHATEVER THE INPUT: true; the input reads as it did. -/
def superStoresSpec : ChangeSpec := { name := "superStores", fn := fun _ => fun
  | [d1, d2] => { results := [.lit (.bool true)], args := [d1, d2] }
  | _ => none }
def superStoresRow : OpenClaim := { program := "ytkpfkknldeafkaa", sum := "1d886a910213a49435d6264a1c52c4fc7cace86244620ecd5e395b9ef70308bd", func := "clockwork/clockworklaw46.SuperStores", spec := "superStores", unfollowed := true, recurses := true, apart := false }
def SuperStoresSaid : Prop := superStoresRow.holds Try.pinned (OpenSpec.ofChange superStoresSpec)

/-- ITS FALSE NEIGHBOUR: 'it returns false'. Refute it at one input. -/
def superStoresWrong : ChangeSpec := { name := "superStores", fn := fun _ => fun
  | [d1, d2] => { results := [.lit (.bool false)], args := [d1, d2] }
  | _ => none }
def SuperStoresWrongFalsely : Prop := superStoresRow.holds Try.pinned (OpenSpec.ofChange superStoresWrong)

/-- 'clockworklaw46.SuperRoundTrips': WHATEVER THE INPUT: true; the input reads as it did. -/
def superRoundTripsSpec : ChangeSpec := { name := "superRoundTrips", fn := fun _ => fun
  | [d1, d2] => { results := [.lit (.bool true)], args := [d1, d2] }
  | _ => none }
def superRoundTripsRow : OpenClaim := { program := "ytkpfkknldeafkaa", sum := "1d886a910213a49435d6264a1c52c4fc7cace86244620ecd5e395b9ef70308bd", func := "clockwork/clockworklaw46.SuperRoundTrips", spec := "superRoundTrips", unfollowed := true, recurses := true, apart := false }
def SuperRoundTripsSaid : Prop := superRoundTripsRow.holds Try.pinned (OpenSpec.ofChange superRoundTripsSpec)

/-- ITS FALSE NEIGHBOUR: 'it returns false'. Refute it at one input. -/
def superRoundTripsWrong : ChangeSpec := { name := "superRoundTrips", fn := fun _ => fun
  | [d1, d2] => { results := [.lit (.bool false)], args := [d1, d2] }
  | _ => none }
def SuperRoundTripsWrongFalsely : Prop := superRoundTripsRow.holds Try.pinned (OpenSpec.ofChange superRoundTripsWrong)

/-- 'clockworklaw46.SuperAlternates': WHATEVER THE INPUT: true; the input reads as it did. -/
def superAlternatesSpec : ChangeSpec := { name := "superAlternates", fn := fun _ => fun
  | [d] => { results := [.lit (.bool true)], args := [d] }
  | _ => none }
def superAlternatesRow : OpenClaim := { program := "ytkpfkknldeafkaa", sum := "1d886a910213a49435d6264a1c52c4fc7cace86244620ecd5e395b9ef70308bd", func := "clockwork/clockworklaw46.SuperAlternates", spec := "superAlternates", unfollowed := true, recurses := true, apart := false }
def SuperAlternatesSaid : Prop := superAlternatesRow.holds Try.pinned (OpenSpec.ofChange superAlternatesSpec)

/-- ITS FALSE NEIGHBOUR: 'it returns false'. Refute it at one input. -/
def superAlternatesWrong : ChangeSpec := { name := "superAlternates", fn := fun _ => fun
  | [d] => { results := [.lit (.bool false)], args := [d] }
  | _ => none }
def SuperAlternatesWrongFalsely : Prop := superAlternatesRow.holds Try.pinned (OpenSpec.ofChange superAlternatesWrong)

/-- 'clockworklaw46.SuperSurvives': WHATEVER THE INPUT: true; the input reads as it did. -/
def superSurvivesSpec : ChangeSpec := { name := "superSurvives", fn := fun _ => fun
  | [d] => { results := [.lit (.bool true)], args := [d] }
  | _ => none }
def superSurvivesRow : OpenClaim := { program := "ytkpfkknldeafkaa", sum := "1d886a910213a49435d6264a1c52c4fc7cace86244620ecd5e395b9ef70308bd", func := "clockwork/clockworklaw46.SuperSurvives", spec := "superSurvives", unfollowed := true, recurses := true, apart := false }
def SuperSurvivesSaid : Prop := superSurvivesRow.holds Try.pinned (OpenSpec.ofChange superSurvivesSpec)

/-- ITS FALSE NEIGHBOUR: 'it returns false'. Refute it at one input. -/
def superSurvivesWrong : ChangeSpec := { name := "superSurvives", fn := fun _ => fun
  | [d] => { results := [.lit (.bool false)], args := [d] }
  | _ => none }
def SuperSurvivesWrongFalsely : Prop := superSurvivesRow.holds Try.pinned (OpenSpec.ofChange superSurvivesWrong)

/-- 'clockworklaw47.WalOpens': WHATEVER THE INPUT: true; the input reads as it did. -/
def walOpensSpec : ChangeSpec := { name := "walOpens", fn := fun _ => fun
  | [d] => { results := [.lit (.bool true)], args := [d] }
  | _ => none }
def walOpensRow : OpenClaim := { program := "ytkpfkknldeafkaa", sum := "1d886a910213a49435d6264a1c52c4fc7cace86244620ecd5e395b9ef70308bd", func := "clockwork/clockworklaw47.WalOpens", spec := "walOpens", unfollowed := true, recurses := true, apart := false }
def WalOpensSaid : Prop := walOpensRow.holds Try.pinned (OpenSpec.ofChange walOpensSpec)

/-- ITS FALSE NEIGHBOUR: 'it returns false'. Refute it at one input. -/
def walOpensWrong : ChangeSpec := { name := "walOpens", fn := fun _ => fun
  | [d] => { results := [.lit (.bool false)], args := [d] }
  | _ => none }
def WalOpensWrongFalsely : Prop := walOpensRow.holds Try.pinned (OpenSpec.ofChange walOpensWrong)

/-- 'clockworklaw47.WalAppends': WHATEVER THE INPUT: true; the input reads as it did. -/
def walAppendsSpec : ChangeSpec := { name := "walAppends", fn := fun _ => fun
  | [d1, d2, d3] => { results := [.lit (.bool true)], args := [d1, d2, d3] }
  | _ => none }
def walAppendsRow : OpenClaim := { program := "ytkpfkknldeafkaa", sum := "1d886a910213a49435d6264a1c52c4fc7cace86244620ecd5e395b9ef70308bd", func := "clockwork/clockworklaw47.WalAppends", spec := "walAppends", unfollowed := true, recurses := true, apart := false }
def WalAppendsSaid : Prop := walAppendsRow.holds Try.pinned (OpenSpec.ofChange walAppendsSpec)

/-- ITS FALSE NEIGHBOUR: 'it returns false'. Refute it at one input. -/
def walAppendsWrong : ChangeSpec := { name := "walAppends", fn := fun _ => fun
  | [d1, d2, d3] => { results := [.lit (.bool false)], args := [d1, d2, d3] }
  | _ => none }
def WalAppendsWrongFalsely : Prop := walAppendsRow.holds Try.pinned (OpenSpec.ofChange walAppendsWrong)

/-- 'clockworklaw47.WalResets': WHATEVER THE INPUT: true; the input reads as it did. -/
def walResetsSpec : ChangeSpec := { name := "walResets", fn := fun _ => fun
  | [d1, d2, d3] => { results := [.lit (.bool true)], args := [d1, d2, d3] }
  | _ => none }
def walResetsRow : OpenClaim := { program := "ytkpfkknldeafkaa", sum := "1d886a910213a49435d6264a1c52c4fc7cace86244620ecd5e395b9ef70308bd", func := "clockwork/clockworklaw47.WalResets", spec := "walResets", unfollowed := true, recurses := true, apart := false }
def WalResetsSaid : Prop := walResetsRow.holds Try.pinned (OpenSpec.ofChange walResetsSpec)

/-- ITS FALSE NEIGHBOUR: 'it returns false'. Refute it at one input. -/
def walResetsWrong : ChangeSpec := { name := "walResets", fn := fun _ => fun
  | [d1, d2, d3] => { results := [.lit (.bool false)], args := [d1, d2, d3] }
  | _ => none }
def WalResetsWrongFalsely : Prop := walResetsRow.holds Try.pinned (OpenSpec.ofChange walResetsWrong)

/-- 'clockworklaw47.WalAreas': WHATEVER THE INPUT: true; the input reads as it did. -/
def walAreasSpec : ChangeSpec := { name := "walAreas", fn := fun _ => fun
  | [d1, d2] => { results := [.lit (.bool true)], args := [d1, d2] }
  | _ => none }
def walAreasRow : OpenClaim := { program := "ytkpfkknldeafkaa", sum := "1d886a910213a49435d6264a1c52c4fc7cace86244620ecd5e395b9ef70308bd", func := "clockwork/clockworklaw47.WalAreas", spec := "walAreas", unfollowed := true, recurses := true, apart := false }
def WalAreasSaid : Prop := walAreasRow.holds Try.pinned (OpenSpec.ofChange walAreasSpec)

/-- ITS FALSE NEIGHBOUR: 'it returns false'. Refute it at one input. -/
def walAreasWrong : ChangeSpec := { name := "walAreas", fn := fun _ => fun
  | [d1, d2] => { results := [.lit (.bool false)], args := [d1, d2] }
  | _ => none }
def WalAreasWrongFalsely : Prop := walAreasRow.holds Try.pinned (OpenSpec.ofChange walAreasWrong)

/-- 'clockworklaw47.WalKeeps': WHATEVER THE INPUT: true; the input reads as it did. -/
def walKeepsSpec : ChangeSpec := { name := "walKeeps", fn := fun _ => fun
  | [d1, d2] => { results := [.lit (.bool true)], args := [d1, d2] }
  | _ => none }
def walKeepsRow : OpenClaim := { program := "ytkpfkknldeafkaa", sum := "1d886a910213a49435d6264a1c52c4fc7cace86244620ecd5e395b9ef70308bd", func := "clockwork/clockworklaw47.WalKeeps", spec := "walKeeps", unfollowed := true, recurses := true, apart := false }
def WalKeepsSaid : Prop := walKeepsRow.holds Try.pinned (OpenSpec.ofChange walKeepsSpec)

/-- ITS FALSE NEIGHBOUR: 'it returns false'. Refute it at one input. -/
def walKeepsWrong : ChangeSpec := { name := "walKeeps", fn := fun _ => fun
  | [d1, d2] => { results := [.lit (.bool false)], args := [d1, d2] }
  | _ => none }
def WalKeepsWrongFalsely : Prop := walKeepsRow.holds Try.pinned (OpenSpec.ofChange walKeepsWrong)

/-- 'clockworklaw47.WalSurvives': WHATEVER THE INPUT: true; the input reads as it did. -/
def walSurvivesSpec : ChangeSpec := { name := "walSurvives", fn := fun _ => fun
  | [d1, d2, d3] => { results := [.lit (.bool true)], args := [d1, d2, d3] }
  | _ => none }
def walSurvivesRow : OpenClaim := { program := "ytkpfkknldeafkaa", sum := "1d886a910213a49435d6264a1c52c4fc7cace86244620ecd5e395b9ef70308bd", func := "clockwork/clockworklaw47.WalSurvives", spec := "walSurvives", unfollowed := true, recurses := true, apart := false }
def WalSurvivesSaid : Prop := walSurvivesRow.holds Try.pinned (OpenSpec.ofChange walSurvivesSpec)

/-- ITS FALSE NEIGHBOUR: 'it returns false'. Refute it at one input. -/
def walSurvivesWrong : ChangeSpec := { name := "walSurvives", fn := fun _ => fun
  | [d1, d2, d3] => { results := [.lit (.bool false)], args := [d1, d2, d3] }
  | _ => none }
def WalSurvivesWrongFalsely : Prop := walSurvivesRow.holds Try.pinned (OpenSpec.ofChange walSurvivesWrong)

/- THE SECOND FORM. 'bulk': how many values and letters a reading holds, each counted each time it is reached (what is shared counts as often as it is met; a slice's spare places count too). A statement '..UptoSaid' is the law's where the arguments, and the package variables that the reading takes, are together of bulk at most 1048576: NARROWER than '..Said'. Prove '..Said' where nothing that the law and all that it calls make is longer than what came in: it says more and counts as full. Else prove '..UptoSaid'. A law counts once. -/
mutual
def uptoBulk {H : Type} : DataW H → Nat
  | .lit (.string bytes) => bytes.length + 1
  | .lit _ => 1
  | .nil => 1
  | .ptr d => uptoBulk d + 1
  | .slice elems spare => uptoBulkAll elems + uptoBulkAll spare + 1
  | .agg parts => uptoBulkAll parts + 1
  | .iface _ d => uptoBulk d + 1
  | .map entries => uptoBulkEntries entries + 1
  | .held _ => 1
def uptoBulkAll {H : Type} : List (DataW H) → Nat
  | [] => 0
  | d :: r => uptoBulk d + uptoBulkAll r
def uptoBulkEntries {H : Type} : List (Lit × DataW H) → Nat
  | [] => 0
  | x :: r => uptoBulkEntry x + uptoBulkEntries r
def uptoBulkEntry {H : Type} : Lit × DataW H → Nat
  | (.string bytes, d) => bytes.length + uptoBulk d + 1
  | (_, d) => uptoBulk d + 1
 end
def uptoSmall : (H : Type) → List (DataW H) → Bool := fun _ ds => decide (uptoBulkAll ds ≤ 1048576)
def OpenSpec.upto (s : _root_.Go.ChangeSpec) : _root_.Go.OpenSpec := { _root_.Go.OpenSpec.ofChange s with cond := some uptoSmall }

/-- 'clockworklaw46.SuperEncodes', WHERE WHAT IT READS IS OF BULK AT MOST 1048576: true; the input reads as it did. -/
def superEncodesUptoRow : OpenClaim := { program := "ytkpfkknldeafkaa", sum := "1d886a910213a49435d6264a1c52c4fc7cace86244620ecd5e395b9ef70308bd", func := "clockwork/clockworklaw46.SuperEncodes", spec := "superEncodes", unfollowed := true, recurses := true, apart := false, narrowed := true }
def SuperEncodesUptoSaid : Prop := superEncodesUptoRow.holds Try.pinned (OpenSpec.upto superEncodesSpec)

/-- 'clockworklaw46.SuperDecodes', WHERE WHAT IT READS IS OF BULK AT MOST 1048576: true; the input reads as it did. -/
def superDecodesUptoRow : OpenClaim := { program := "ytkpfkknldeafkaa", sum := "1d886a910213a49435d6264a1c52c4fc7cace86244620ecd5e395b9ef70308bd", func := "clockwork/clockworklaw46.SuperDecodes", spec := "superDecodes", unfollowed := true, recurses := true, apart := false, narrowed := true }
def SuperDecodesUptoSaid : Prop := superDecodesUptoRow.holds Try.pinned (OpenSpec.upto superDecodesSpec)

/-- 'clockworklaw46.SuperBest', WHERE WHAT IT READS IS OF BULK AT MOST 1048576: true; the input reads as it did. -/
def superBestUptoRow : OpenClaim := { program := "ytkpfkknldeafkaa", sum := "1d886a910213a49435d6264a1c52c4fc7cace86244620ecd5e395b9ef70308bd", func := "clockwork/clockworklaw46.SuperBest", spec := "superBest", unfollowed := true, recurses := true, apart := false, narrowed := true }
def SuperBestUptoSaid : Prop := superBestUptoRow.holds Try.pinned (OpenSpec.upto superBestSpec)

/-- 'clockworklaw46.SuperStores', WHERE WHAT IT READS IS OF BULK AT MOST 1048576: true; the input reads as it did. -/
def superStoresUptoRow : OpenClaim := { program := "ytkpfkknldeafkaa", sum := "1d886a910213a49435d6264a1c52c4fc7cace86244620ecd5e395b9ef70308bd", func := "clockwork/clockworklaw46.SuperStores", spec := "superStores", unfollowed := true, recurses := true, apart := false, narrowed := true }
def SuperStoresUptoSaid : Prop := superStoresUptoRow.holds Try.pinned (OpenSpec.upto superStoresSpec)

/-- 'clockworklaw46.SuperRoundTrips', WHERE WHAT IT READS IS OF BULK AT MOST 1048576: true; the input reads as it did. -/
def superRoundTripsUptoRow : OpenClaim := { program := "ytkpfkknldeafkaa", sum := "1d886a910213a49435d6264a1c52c4fc7cace86244620ecd5e395b9ef70308bd", func := "clockwork/clockworklaw46.SuperRoundTrips", spec := "superRoundTrips", unfollowed := true, recurses := true, apart := false, narrowed := true }
def SuperRoundTripsUptoSaid : Prop := superRoundTripsUptoRow.holds Try.pinned (OpenSpec.upto superRoundTripsSpec)

/-- 'clockworklaw46.SuperAlternates', WHERE WHAT IT READS IS OF BULK AT MOST 1048576: true; the input reads as it did. -/
def superAlternatesUptoRow : OpenClaim := { program := "ytkpfkknldeafkaa", sum := "1d886a910213a49435d6264a1c52c4fc7cace86244620ecd5e395b9ef70308bd", func := "clockwork/clockworklaw46.SuperAlternates", spec := "superAlternates", unfollowed := true, recurses := true, apart := false, narrowed := true }
def SuperAlternatesUptoSaid : Prop := superAlternatesUptoRow.holds Try.pinned (OpenSpec.upto superAlternatesSpec)

/-- 'clockworklaw46.SuperSurvives', WHERE WHAT IT READS IS OF BULK AT MOST 1048576: true; the input reads as it did. -/
def superSurvivesUptoRow : OpenClaim := { program := "ytkpfkknldeafkaa", sum := "1d886a910213a49435d6264a1c52c4fc7cace86244620ecd5e395b9ef70308bd", func := "clockwork/clockworklaw46.SuperSurvives", spec := "superSurvives", unfollowed := true, recurses := true, apart := false, narrowed := true }
def SuperSurvivesUptoSaid : Prop := superSurvivesUptoRow.holds Try.pinned (OpenSpec.upto superSurvivesSpec)

/-- 'clockworklaw47.WalOpens', WHERE WHAT IT READS IS OF BULK AT MOST 1048576: true; the input reads as it did. -/
def walOpensUptoRow : OpenClaim := { program := "ytkpfkknldeafkaa", sum := "1d886a910213a49435d6264a1c52c4fc7cace86244620ecd5e395b9ef70308bd", func := "clockwork/clockworklaw47.WalOpens", spec := "walOpens", unfollowed := true, recurses := true, apart := false, narrowed := true }
def WalOpensUptoSaid : Prop := walOpensUptoRow.holds Try.pinned (OpenSpec.upto walOpensSpec)

/-- 'clockworklaw47.WalAppends', WHERE WHAT IT READS IS OF BULK AT MOST 1048576: true; the input reads as it did. -/
def walAppendsUptoRow : OpenClaim := { program := "ytkpfkknldeafkaa", sum := "1d886a910213a49435d6264a1c52c4fc7cace86244620ecd5e395b9ef70308bd", func := "clockwork/clockworklaw47.WalAppends", spec := "walAppends", unfollowed := true, recurses := true, apart := false, narrowed := true }
def WalAppendsUptoSaid : Prop := walAppendsUptoRow.holds Try.pinned (OpenSpec.upto walAppendsSpec)

/-- 'clockworklaw47.WalResets', WHERE WHAT IT READS IS OF BULK AT MOST 1048576: true; the input reads as it did. -/
def walResetsUptoRow : OpenClaim := { program := "ytkpfkknldeafkaa", sum := "1d886a910213a49435d6264a1c52c4fc7cace86244620ecd5e395b9ef70308bd", func := "clockwork/clockworklaw47.WalResets", spec := "walResets", unfollowed := true, recurses := true, apart := false, narrowed := true }
def WalResetsUptoSaid : Prop := walResetsUptoRow.holds Try.pinned (OpenSpec.upto walResetsSpec)

/-- 'clockworklaw47.WalAreas', WHERE WHAT IT READS IS OF BULK AT MOST 1048576: true; the input reads as it did. -/
def walAreasUptoRow : OpenClaim := { program := "ytkpfkknldeafkaa", sum := "1d886a910213a49435d6264a1c52c4fc7cace86244620ecd5e395b9ef70308bd", func := "clockwork/clockworklaw47.WalAreas", spec := "walAreas", unfollowed := true, recurses := true, apart := false, narrowed := true }
def WalAreasUptoSaid : Prop := walAreasUptoRow.holds Try.pinned (OpenSpec.upto walAreasSpec)

/-- 'clockworklaw47.WalKeeps', WHERE WHAT IT READS IS OF BULK AT MOST 1048576: true; the input reads as it did. -/
def walKeepsUptoRow : OpenClaim := { program := "ytkpfkknldeafkaa", sum := "1d886a910213a49435d6264a1c52c4fc7cace86244620ecd5e395b9ef70308bd", func := "clockwork/clockworklaw47.WalKeeps", spec := "walKeeps", unfollowed := true, recurses := true, apart := false, narrowed := true }
def WalKeepsUptoSaid : Prop := walKeepsUptoRow.holds Try.pinned (OpenSpec.upto walKeepsSpec)

/-- 'clockworklaw47.WalSurvives', WHERE WHAT IT READS IS OF BULK AT MOST 1048576: true; the input reads as it did. -/
def walSurvivesUptoRow : OpenClaim := { program := "ytkpfkknldeafkaa", sum := "1d886a910213a49435d6264a1c52c4fc7cace86244620ecd5e395b9ef70308bd", func := "clockwork/clockworklaw47.WalSurvives", spec := "walSurvives", unfollowed := true, recurses := true, apart := false, narrowed := true }
def WalSurvivesUptoSaid : Prop := walSurvivesUptoRow.holds Try.pinned (OpenSpec.upto walSurvivesSpec)

end Rows
end Go.Proofs.Ytkpfkknldeafkaa
