/-
  No cell of these rows narrows 'for every input' (looked for: loops, veiled, ifaces, maps, wideKeys, modest, calm, conditions, laid).
  DERIVED. THE GIVEN ROWS OF THIS SEAT. 12 by the template 'for every input the law returns true; each argument reads behind the call as it read before'; 0 by the template 'total and deterministic' (their statements: YtnghdolpmmdknaaTotals.lean).
  GIVEN WITH THE SEED: the statements are not yours to turn. If you find one false, say at which input.
  Laid BY PROGRAM, IN A SANDBOX (cutbox-rows.mjs): the forced cells as the released guide's own fill.sh prints them over the translation aa586940c9f258ea… (all of the seat's roots in one cut). By AI agents, Wed Nov 11 2026. No macro, syntax, notation, axiom, sorry.
-/
import Derived.Test.YtnghdolpmmdknaaChecked
import GoSem.Claim
import GoSem.ClaimJoined
import GoSem.ClaimMapViews
import Derived.JoinedTies
import Derived.KernelRfl
namespace Go.Proofs.Ytnghdolpmmdknaa
/- THE CELL 'sum', in the pinned program and in every row, IS THE sha256 OF THE DUMP (.gsa) THAT YtnghdolpmmdknaaProg.lean LOADS. Nothing in Lean hashes anything: it is a label: what it is worth is what the hold of that sum in a sandbox is worth. -/
noncomputable def Try.pinned : Pinned := { name := "ytnghdolpmmdknaa", sum := "aa586940c9f258eaf30e89ab3623557ce4a64e44aae5b8976b8d0cb6329d5361", checked := Try.checked }
namespace Rows
def none {H : Type} : Left H := { results := [], args := [] }

/-- 'clockworklaw45.SectorOpens': WHATEVER THE INPUT: true; the input reads as it did. -/
def sectorOpensSpec : ChangeSpec := { name := "sectorOpens", fn := fun _ => fun
  | [d] => { results := [.lit (.bool true)], args := [d] }
  | _ => none }
def sectorOpensRow : OpenClaim := { program := "ytnghdolpmmdknaa", sum := "aa586940c9f258eaf30e89ab3623557ce4a64e44aae5b8976b8d0cb6329d5361", func := "clockwork/clockworklaw45.SectorOpens", spec := "sectorOpens", apart := false }
def SectorOpensSaid : Prop := sectorOpensRow.holds Try.pinned (OpenSpec.ofChange sectorOpensSpec)

/-- ITS FALSE NEIGHBOUR: 'it returns false'. Refute it at one input. -/
def sectorOpensWrong : ChangeSpec := { name := "sectorOpens", fn := fun _ => fun
  | [d] => { results := [.lit (.bool false)], args := [d] }
  | _ => none }
def SectorOpensWrongFalsely : Prop := sectorOpensRow.holds Try.pinned (OpenSpec.ofChange sectorOpensWrong)

/-- 'clockworklaw45.SectorSplits': WHATEVER THE INPUT: true; the input reads as it did. -/
def sectorSplitsSpec : ChangeSpec := { name := "sectorSplits", fn := fun _ => fun
  | [d1, d2] => { results := [.lit (.bool true)], args := [d1, d2] }
  | _ => none }
def sectorSplitsRow : OpenClaim := { program := "ytnghdolpmmdknaa", sum := "aa586940c9f258eaf30e89ab3623557ce4a64e44aae5b8976b8d0cb6329d5361", func := "clockwork/clockworklaw45.SectorSplits", spec := "sectorSplits", apart := false }
def SectorSplitsSaid : Prop := sectorSplitsRow.holds Try.pinned (OpenSpec.ofChange sectorSplitsSpec)

/-- ITS FALSE NEIGHBOUR: 'it returns false'. Refute it at one input. -/
def sectorSplitsWrong : ChangeSpec := { name := "sectorSplits", fn := fun _ => fun
  | [d1, d2] => { results := [.lit (.bool false)], args := [d1, d2] }
  | _ => none }
def SectorSplitsWrongFalsely : Prop := sectorSplitsRow.holds Try.pinned (OpenSpec.ofChange sectorSplitsWrong)

/-- 'clockworklaw45.SectorJoins': WHATEVER THE INPUT: true; the input reads as it did. -/
def sectorJoinsSpec : ChangeSpec := { name := "sectorJoins", fn := fun _ => fun
  | [d1, d2, d3] => { results := [.lit (.bool true)], args := [d1, d2, d3] }
  | _ => none }
def sectorJoinsRow : OpenClaim := { program := "ytnghdolpmmdknaa", sum := "aa586940c9f258eaf30e89ab3623557ce4a64e44aae5b8976b8d0cb6329d5361", func := "clockwork/clockworklaw45.SectorJoins", spec := "sectorJoins", apart := false }
def SectorJoinsSaid : Prop := sectorJoinsRow.holds Try.pinned (OpenSpec.ofChange sectorJoinsSpec)

/-- ITS FALSE NEIGHBOUR: 'it returns false'. Refute it at one input. -/
def sectorJoinsWrong : ChangeSpec := { name := "sectorJoins", fn := fun _ => fun
  | [d1, d2, d3] => { results := [.lit (.bool false)], args := [d1, d2, d3] }
  | _ => none }
def SectorJoinsWrongFalsely : Prop := sectorJoinsRow.holds Try.pinned (OpenSpec.ofChange sectorJoinsWrong)

/-- 'clockworklaw45.SectorRecords': WHATEVER THE INPUT: true; the input reads as it did. -/
def sectorRecordsSpec : ChangeSpec := { name := "sectorRecords", fn := fun _ => fun
  | [d1, d2, d3, d4, d5] => { results := [.lit (.bool true)], args := [d1, d2, d3, d4, d5] }
  | _ => none }
def sectorRecordsRow : OpenClaim := { program := "ytnghdolpmmdknaa", sum := "aa586940c9f258eaf30e89ab3623557ce4a64e44aae5b8976b8d0cb6329d5361", func := "clockwork/clockworklaw45.SectorRecords", spec := "sectorRecords", apart := false }
def SectorRecordsSaid : Prop := sectorRecordsRow.holds Try.pinned (OpenSpec.ofChange sectorRecordsSpec)

/-- ITS FALSE NEIGHBOUR: 'it returns false'. Refute it at one input. -/
def sectorRecordsWrong : ChangeSpec := { name := "sectorRecords", fn := fun _ => fun
  | [d1, d2, d3, d4, d5] => { results := [.lit (.bool false)], args := [d1, d2, d3, d4, d5] }
  | _ => none }
def SectorRecordsWrongFalsely : Prop := sectorRecordsRow.holds Try.pinned (OpenSpec.ofChange sectorRecordsWrong)

/-- 'clockworklaw45.SectorTorn': WHATEVER THE INPUT: true; the input reads as it did. -/
def sectorTornSpec : ChangeSpec := { name := "sectorTorn", fn := fun _ => fun
  | [d1, d2, d3, d4] => { results := [.lit (.bool true)], args := [d1, d2, d3, d4] }
  | _ => none }
def sectorTornRow : OpenClaim := { program := "ytnghdolpmmdknaa", sum := "aa586940c9f258eaf30e89ab3623557ce4a64e44aae5b8976b8d0cb6329d5361", func := "clockwork/clockworklaw45.SectorTorn", spec := "sectorTorn", apart := false }
def SectorTornSaid : Prop := sectorTornRow.holds Try.pinned (OpenSpec.ofChange sectorTornSpec)

/-- ITS FALSE NEIGHBOUR: 'it returns false'. Refute it at one input. -/
def sectorTornWrong : ChangeSpec := { name := "sectorTorn", fn := fun _ => fun
  | [d1, d2, d3, d4] => { results := [.lit (.bool false)], args := [d1, d2, d3, d4] }
  | _ => none }
def SectorTornWrongFalsely : Prop := sectorTornRow.holds Try.pinned (OpenSpec.ofChange sectorTornWrong)

/-- 'clockworklaw45.SectorSeals': WHATEVER THE INPUT: true; the input reads as it did. -/
def sectorSealsSpec : ChangeSpec := { name := "sectorSeals", fn := fun _ => fun
  | [d1, d2] => { results := [.lit (.bool true)], args := [d1, d2] }
  | _ => none }
def sectorSealsRow : OpenClaim := { program := "ytnghdolpmmdknaa", sum := "aa586940c9f258eaf30e89ab3623557ce4a64e44aae5b8976b8d0cb6329d5361", func := "clockwork/clockworklaw45.SectorSeals", spec := "sectorSeals", apart := false }
def SectorSealsSaid : Prop := sectorSealsRow.holds Try.pinned (OpenSpec.ofChange sectorSealsSpec)

/-- ITS FALSE NEIGHBOUR: 'it returns false'. Refute it at one input. -/
def sectorSealsWrong : ChangeSpec := { name := "sectorSeals", fn := fun _ => fun
  | [d1, d2] => { results := [.lit (.bool false)], args := [d1, d2] }
  | _ => none }
def SectorSealsWrongFalsely : Prop := sectorSealsRow.holds Try.pinned (OpenSpec.ofChange sectorSealsWrong)

/-- 'clockworklaw45.SectorRoundTrips': WHATEVER THE INPUT: true; the input reads as it did. -/
def sectorRoundTripsSpec : ChangeSpec := { name := "sectorRoundTrips", fn := fun _ => fun
  | [d1, d2, d3] => { results := [.lit (.bool true)], args := [d1, d2, d3] }
  | _ => none }
def sectorRoundTripsRow : OpenClaim := { program := "ytnghdolpmmdknaa", sum := "aa586940c9f258eaf30e89ab3623557ce4a64e44aae5b8976b8d0cb6329d5361", func := "clockwork/clockworklaw45.SectorRoundTrips", spec := "sectorRoundTrips", apart := false }
def SectorRoundTripsSaid : Prop := sectorRoundTripsRow.holds Try.pinned (OpenSpec.ofChange sectorRoundTripsSpec)

/-- ITS FALSE NEIGHBOUR: 'it returns false'. Refute it at one input. -/
def sectorRoundTripsWrong : ChangeSpec := { name := "sectorRoundTrips", fn := fun _ => fun
  | [d1, d2, d3] => { results := [.lit (.bool false)], args := [d1, d2, d3] }
  | _ => none }
def SectorRoundTripsWrongFalsely : Prop := sectorRoundTripsRow.holds Try.pinned (OpenSpec.ofChange sectorRoundTripsWrong)

/-- 'clockworklaw44.DiskCrashes': WHATEVER THE INPUT: true; the input reads as it did. -/
def diskCrashesSpec : ChangeSpec := { name := "diskCrashes", fn := fun _ => fun
  | [d1, d2, d3] => { results := [.lit (.bool true)], args := [d1, d2, d3] }
  | _ => none }
def diskCrashesRow : OpenClaim := { program := "ytnghdolpmmdknaa", sum := "aa586940c9f258eaf30e89ab3623557ce4a64e44aae5b8976b8d0cb6329d5361", func := "clockwork/clockworklaw44.DiskCrashes", spec := "diskCrashes", unfollowed := true, recurses := true, apart := false }
def DiskCrashesSaid : Prop := diskCrashesRow.holds Try.pinned (OpenSpec.ofChange diskCrashesSpec)

/-- ITS FALSE NEIGHBOUR: 'it returns false'. Refute it at one input. -/
def diskCrashesWrong : ChangeSpec := { name := "diskCrashes", fn := fun _ => fun
  | [d1, d2, d3] => { results := [.lit (.bool false)], args := [d1, d2, d3] }
  | _ => none }
def DiskCrashesWrongFalsely : Prop := diskCrashesRow.holds Try.pinned (OpenSpec.ofChange diskCrashesWrong)

/-- 'clockworklaw44.DiskCrashed': WHATEVER THE INPUT: true; the input reads as it did. -/
def diskCrashedSpec : ChangeSpec := { name := "diskCrashed", fn := fun _ => fun
  | [d1, d2, d3] => { results := [.lit (.bool true)], args := [d1, d2, d3] }
  | _ => none }
def diskCrashedRow : OpenClaim := { program := "ytnghdolpmmdknaa", sum := "aa586940c9f258eaf30e89ab3623557ce4a64e44aae5b8976b8d0cb6329d5361", func := "clockwork/clockworklaw44.DiskCrashed", spec := "diskCrashed", unfollowed := true, recurses := true, apart := false }
def DiskCrashedSaid : Prop := diskCrashedRow.holds Try.pinned (OpenSpec.ofChange diskCrashedSpec)

/-- ITS FALSE NEIGHBOUR: 'it returns false'. Refute it at one input. -/
def diskCrashedWrong : ChangeSpec := { name := "diskCrashed", fn := fun _ => fun
  | [d1, d2, d3] => { results := [.lit (.bool false)], args := [d1, d2, d3] }
  | _ => none }
def DiskCrashedWrongFalsely : Prop := diskCrashedRow.holds Try.pinned (OpenSpec.ofChange diskCrashedWrong)

/-- 'clockworklaw44.DiskOperations': WHATEVER THE INPUT: true; the input reads as it did. -/
def diskOperationsSpec : ChangeSpec := { name := "diskOperations", fn := fun _ => fun
  | [d1, d2, d3] => { results := [.lit (.bool true)], args := [d1, d2, d3] }
  | _ => none }
def diskOperationsRow : OpenClaim := { program := "ytnghdolpmmdknaa", sum := "aa586940c9f258eaf30e89ab3623557ce4a64e44aae5b8976b8d0cb6329d5361", func := "clockwork/clockworklaw44.DiskOperations", spec := "diskOperations", unfollowed := true, recurses := true, apart := false }
def DiskOperationsSaid : Prop := diskOperationsRow.holds Try.pinned (OpenSpec.ofChange diskOperationsSpec)

/-- ITS FALSE NEIGHBOUR: 'it returns false'. Refute it at one input. -/
def diskOperationsWrong : ChangeSpec := { name := "diskOperations", fn := fun _ => fun
  | [d1, d2, d3] => { results := [.lit (.bool false)], args := [d1, d2, d3] }
  | _ => none }
def DiskOperationsWrongFalsely : Prop := diskOperationsRow.holds Try.pinned (OpenSpec.ofChange diskOperationsWrong)

/-- 'clockworklaw44.DiskFuse': WHATEVER THE INPUT: true; the input reads as it did. -/
def diskFuseSpec : ChangeSpec := { name := "diskFuse", fn := fun _ => fun
  | [d1, d2] => { results := [.lit (.bool true)], args := [d1, d2] }
  | _ => none }
def diskFuseRow : OpenClaim := { program := "ytnghdolpmmdknaa", sum := "aa586940c9f258eaf30e89ab3623557ce4a64e44aae5b8976b8d0cb6329d5361", func := "clockwork/clockworklaw44.DiskFuse", spec := "diskFuse", unfollowed := true, recurses := true, apart := false }
def DiskFuseSaid : Prop := diskFuseRow.holds Try.pinned (OpenSpec.ofChange diskFuseSpec)

/-- ITS FALSE NEIGHBOUR: 'it returns false'. Refute it at one input. -/
def diskFuseWrong : ChangeSpec := { name := "diskFuse", fn := fun _ => fun
  | [d1, d2] => { results := [.lit (.bool false)], args := [d1, d2] }
  | _ => none }
def DiskFuseWrongFalsely : Prop := diskFuseRow.holds Try.pinned (OpenSpec.ofChange diskFuseWrong)

/-- 'clockworklaw44.DiskReads': WHATEVER THE INPUT: true; the input reads as it did. -/
def diskReadsSpec : ChangeSpec := { name := "diskReads", fn := fun _ => fun
  | [d1, d2, d3] => { results := [.lit (.bool true)], args := [d1, d2, d3] }
  | _ => none }
def diskReadsRow : OpenClaim := { program := "ytnghdolpmmdknaa", sum := "aa586940c9f258eaf30e89ab3623557ce4a64e44aae5b8976b8d0cb6329d5361", func := "clockwork/clockworklaw44.DiskReads", spec := "diskReads", unfollowed := true, recurses := true, apart := false }
def DiskReadsSaid : Prop := diskReadsRow.holds Try.pinned (OpenSpec.ofChange diskReadsSpec)

/-- ITS FALSE NEIGHBOUR: 'it returns false'. Refute it at one input. -/
def diskReadsWrong : ChangeSpec := { name := "diskReads", fn := fun _ => fun
  | [d1, d2, d3] => { results := [.lit (.bool false)], args := [d1, d2, d3] }
  | _ => none }
def DiskReadsWrongFalsely : Prop := diskReadsRow.holds Try.pinned (OpenSpec.ofChange diskReadsWrong)

/- THE SECOND FORM. 'bulk': how many values and letters a reading holds, each counted each time it is reached (what is shared counts as often as it is met; a slice's spare places count too). A statement '..UptoSaid' is the law's where the arguments, and the package variables that the reading takes, are together of bulk at most 1048576: NARROWER than '..Said'. Prove '..Said' where nothing that the law and all that it calls make is longer than what came in: it says more and counts as full. Else prove '..UptoSaid'. A law counts once. -/
mutual
def uptoBulk {H : Type} : DataW H → Nat
  | .lit (.string bytes) => bytes.length + 1
  | .lit _ => 1
  | .nil => 1
  | .ptr d => uptoBulk d + 1
  | .slice elems spare => uptoBulkAll elems + uptoBulkAll spare + 1
  | .agg parts => uptoBulkAll parts + 1
  | .iface _ d => uptoBulk d + 1
  | .map entries => uptoBulkEntries entries + 1
  | .held _ => 1
def uptoBulkAll {H : Type} : List (DataW H) → Nat
  | [] => 0
  | d :: r => uptoBulk d + uptoBulkAll r
def uptoBulkEntries {H : Type} : List (Lit × DataW H) → Nat
  | [] => 0
  | x :: r => uptoBulkEntry x + uptoBulkEntries r
def uptoBulkEntry {H : Type} : Lit × DataW H → Nat
  | (.string bytes, d) => bytes.length + uptoBulk d + 1
  | (_, d) => uptoBulk d + 1
 end
def uptoSmall : (H : Type) → List (DataW H) → Bool := fun _ ds => decide (uptoBulkAll ds ≤ 1048576)
def OpenSpec.upto (s : _root_.Go.ChangeSpec) : _root_.Go.OpenSpec := { _root_.Go.OpenSpec.ofChange s with cond := some uptoSmall }

/-- 'clockworklaw45.SectorOpens', WHERE WHAT IT READS IS OF BULK AT MOST 1048576: true; the input reads as it did. -/
def sectorOpensUptoRow : OpenClaim := { program := "ytnghdolpmmdknaa", sum := "aa586940c9f258eaf30e89ab3623557ce4a64e44aae5b8976b8d0cb6329d5361", func := "clockwork/clockworklaw45.SectorOpens", spec := "sectorOpens", apart := false, narrowed := true }
def SectorOpensUptoSaid : Prop := sectorOpensUptoRow.holds Try.pinned (OpenSpec.upto sectorOpensSpec)

/-- 'clockworklaw45.SectorSplits', WHERE WHAT IT READS IS OF BULK AT MOST 1048576: true; the input reads as it did. -/
def sectorSplitsUptoRow : OpenClaim := { program := "ytnghdolpmmdknaa", sum := "aa586940c9f258eaf30e89ab3623557ce4a64e44aae5b8976b8d0cb6329d5361", func := "clockwork/clockworklaw45.SectorSplits", spec := "sectorSplits", apart := false, narrowed := true }
def SectorSplitsUptoSaid : Prop := sectorSplitsUptoRow.holds Try.pinned (OpenSpec.upto sectorSplitsSpec)

/-- 'clockworklaw45.SectorJoins', WHERE WHAT IT READS IS OF BULK AT MOST 1048576: true; the input reads as it did. -/
def sectorJoinsUptoRow : OpenClaim := { program := "ytnghdolpmmdknaa", sum := "aa586940c9f258eaf30e89ab3623557ce4a64e44aae5b8976b8d0cb6329d5361", func := "clockwork/clockworklaw45.SectorJoins", spec := "sectorJoins", apart := false, narrowed := true }
def SectorJoinsUptoSaid : Prop := sectorJoinsUptoRow.holds Try.pinned (OpenSpec.upto sectorJoinsSpec)

/-- 'clockworklaw45.SectorRecords', WHERE WHAT IT READS IS OF BULK AT MOST 1048576: true; the input reads as it did. -/
def sectorRecordsUptoRow : OpenClaim := { program := "ytnghdolpmmdknaa", sum := "aa586940c9f258eaf30e89ab3623557ce4a64e44aae5b8976b8d0cb6329d5361", func := "clockwork/clockworklaw45.SectorRecords", spec := "sectorRecords", apart := false, narrowed := true }
def SectorRecordsUptoSaid : Prop := sectorRecordsUptoRow.holds Try.pinned (OpenSpec.upto sectorRecordsSpec)

/-- 'clockworklaw45.SectorTorn', WHERE WHAT IT READS IS OF BULK AT MOST 1048576: true; the input reads as it did. -/
def sectorTornUptoRow : OpenClaim := { program := "ytnghdolpmmdknaa", sum := "aa586940c9f258eaf30e89ab3623557ce4a64e44aae5b8976b8d0cb6329d5361", func := "clockwork/clockworklaw45.SectorTorn", spec := "sectorTorn", apart := false, narrowed := true }
def SectorTornUptoSaid : Prop := sectorTornUptoRow.holds Try.pinned (OpenSpec.upto sectorTornSpec)

/-- 'clockworklaw45.SectorSeals', WHERE WHAT IT READS IS OF BULK AT MOST 1048576: true; the input reads as it did. -/
def sectorSealsUptoRow : OpenClaim := { program := "ytnghdolpmmdknaa", sum := "aa586940c9f258eaf30e89ab3623557ce4a64e44aae5b8976b8d0cb6329d5361", func := "clockwork/clockworklaw45.SectorSeals", spec := "sectorSeals", apart := false, narrowed := true }
def SectorSealsUptoSaid : Prop := sectorSealsUptoRow.holds Try.pinned (OpenSpec.upto sectorSealsSpec)

/-- 'clockworklaw45.SectorRoundTrips', WHERE WHAT IT READS IS OF BULK AT MOST 1048576: true; the input reads as it did. -/
def sectorRoundTripsUptoRow : OpenClaim := { program := "ytnghdolpmmdknaa", sum := "aa586940c9f258eaf30e89ab3623557ce4a64e44aae5b8976b8d0cb6329d5361", func := "clockwork/clockworklaw45.SectorRoundTrips", spec := "sectorRoundTrips", apart := false, narrowed := true }
def SectorRoundTripsUptoSaid : Prop := sectorRoundTripsUptoRow.holds Try.pinned (OpenSpec.upto sectorRoundTripsSpec)

/-- 'clockworklaw44.DiskCrashes', WHERE WHAT IT READS IS OF BULK AT MOST 1048576: true; the input reads as it did. -/
def diskCrashesUptoRow : OpenClaim := { program := "ytnghdolpmmdknaa", sum := "aa586940c9f258eaf30e89ab3623557ce4a64e44aae5b8976b8d0cb6329d5361", func := "clockwork/clockworklaw44.DiskCrashes", spec := "diskCrashes", unfollowed := true, recurses := true, apart := false, narrowed := true }
def DiskCrashesUptoSaid : Prop := diskCrashesUptoRow.holds Try.pinned (OpenSpec.upto diskCrashesSpec)

/-- 'clockworklaw44.DiskCrashed', WHERE WHAT IT READS IS OF BULK AT MOST 1048576: true; the input reads as it did. -/
def diskCrashedUptoRow : OpenClaim := { program := "ytnghdolpmmdknaa", sum := "aa586940c9f258eaf30e89ab3623557ce4a64e44aae5b8976b8d0cb6329d5361", func := "clockwork/clockworklaw44.DiskCrashed", spec := "diskCrashed", unfollowed := true, recurses := true, apart := false, narrowed := true }
def DiskCrashedUptoSaid : Prop := diskCrashedUptoRow.holds Try.pinned (OpenSpec.upto diskCrashedSpec)

/-- 'clockworklaw44.DiskOperations', WHERE WHAT IT READS IS OF BULK AT MOST 1048576: true; the input reads as it did. -/
def diskOperationsUptoRow : OpenClaim := { program := "ytnghdolpmmdknaa", sum := "aa586940c9f258eaf30e89ab3623557ce4a64e44aae5b8976b8d0cb6329d5361", func := "clockwork/clockworklaw44.DiskOperations", spec := "diskOperations", unfollowed := true, recurses := true, apart := false, narrowed := true }
def DiskOperationsUptoSaid : Prop := diskOperationsUptoRow.holds Try.pinned (OpenSpec.upto diskOperationsSpec)

/-- 'clockworklaw44.DiskFuse', WHERE WHAT IT READS IS OF BULK AT MOST 1048576: true; the input reads as it did. -/
def diskFuseUptoRow : OpenClaim := { program := "ytnghdolpmmdknaa", sum := "aa586940c9f258eaf30e89ab3623557ce4a64e44aae5b8976b8d0cb6329d5361", func := "clockwork/clockworklaw44.DiskFuse", spec := "diskFuse", unfollowed := true, recurses := true, apart := false, narrowed := true }
def DiskFuseUptoSaid : Prop := diskFuseUptoRow.holds Try.pinned (OpenSpec.upto diskFuseSpec)

/-- 'clockworklaw44.DiskReads', WHERE WHAT IT READS IS OF BULK AT MOST 1048576: true; the input reads as it did. -/
def diskReadsUptoRow : OpenClaim := { program := "ytnghdolpmmdknaa", sum := "aa586940c9f258eaf30e89ab3623557ce4a64e44aae5b8976b8d0cb6329d5361", func := "clockwork/clockworklaw44.DiskReads", spec := "diskReads", unfollowed := true, recurses := true, apart := false, narrowed := true }
def DiskReadsUptoSaid : Prop := diskReadsUptoRow.holds Try.pinned (OpenSpec.upto diskReadsSpec)

end Rows
end Go.Proofs.Ytnghdolpmmdknaa
