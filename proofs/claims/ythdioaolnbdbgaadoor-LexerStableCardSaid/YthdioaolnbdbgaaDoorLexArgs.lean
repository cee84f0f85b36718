/- What the row's listed variables give. No conditions. -/
import Derived.Test.YthdioaolnbdbgaaDoorLexP
import Derived.Lib.LaidTab
import Derived.Stop.LaidErr
import Derived.LaidMore
import Derived.Deep.Slices
import Derived.Lib.SmallJoins
import Derived.OpenShut
import Derived.ProofKit
import Derived.SizedLaws
import Derived.SliceStrings
import Derived.Test.YthdioaolnbdbgaaDoorRows
namespace Go.Proofs.YthdioaolnbdbgaaDoor
open Go.ChangeShapes Go.WideShapes Go.ChangeAt Go.RowKit

theorem sized_of {H : Type} {P : Program} {ts : List TypeId} {ds : List (DataW H)} (h : (DataW.weightsEach P ts ds).all (· ≤ reachBytes) = true) {j : Nat} {t : TypeId} {d : DataW H} (ht : ts[j]? = some t) (hd : ds[j]? = some d) : ∀ n ∈ d.weights P t, n ≤ reachBytes := by
  intro n hn
  have := List.all_eq_true.1 h n (DataW.weights_mem_each ht hd n hn)
  simpa using this

theorem laid_of {W : World} (h : laidMetH Tryd.prog Rows.lexerWordsRow.laid W) : Laid W := by
  rw [MakeChecks.laidMetH_plain _ _ _ (by kernel_rfl)] at h
  have h3 := h.tail.tail
  refine ⟨?_, ?_⟩
  · exact Lib.tabIs_of_head (name := Tryd.slashName0) (k := .u64) (zs := Lib.pow10Tab) gTab (by kernel_rfl) Tryd.underlying86 Tryd.underlying68 (by kernel_rfl) (by kernel_rfl) h3
  · have h4 := h3.tail
    obtain ⟨a, s, hv, _⟩ := laid_sentinel (tp := 105) h4 gRange (by kernel_rfl) Tryd.underlying44 (fun u hu => typeName_ptr_named (nm := "errors.errorString") (by kernel_rfl) (by kernel_rfl) (by decide) u (hu.trans (congrArg some (by decide)))) Tryd.underlying105 Tryd.underlying107 rfl rfl Tryd.underlying9 (by kernel_rfl) (by kernel_rfl)
    exact ⟨_, _, hv⟩
end Go.Proofs.YthdioaolnbdbgaaDoor
