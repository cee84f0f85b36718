/- From the rows' listed variables to what the walks of layer 1 ask of the world. No conditions. -/
import Derived.Test.YtmcenojiapjcoaaDoorNumLaw
import Derived.Lib.LaidTab
import Derived.Stop.LaidErr
import Derived.LaidMore
namespace Go.Proofs.YtmcenojiapjcoaaDoor
open Go.ChangeShapes Go.WideShapes Go.ChangeAt Go.RowKit

theorem laid_of {W : World} (h : laidMetH Tryd.prog Rows.numDividesRow.laid W) : Laid W := by
  rw [MakeChecks.laidMetH_plain _ _ _ (by kernel_rfl)] at h
  have h3 := h.tail.tail
  refine ⟨?_, ?_⟩
  · exact Lib.tabIs_of_head (name := Tryd.slashName0) (k := .u64) (zs := Lib.pow10Tab) gTab (by kernel_rfl) Tryd.underlying58 Tryd.underlying26 (by kernel_rfl) (by kernel_rfl) h3
  · have h4 := h3.tail
    obtain ⟨a, s, hv, _⟩ := laid_sentinel (tp := 70) h4 gRange (by kernel_rfl) Tryd.underlying39 (fun u hu => typeName_ptr_named (nm := "errors.errorString") (by kernel_rfl) (by kernel_rfl) (by decide) u (hu.trans (congrArg some (by decide)))) Tryd.underlying70 Tryd.underlying72 rfl rfl Tryd.underlying9 (by kernel_rfl) (by kernel_rfl)
    exact ⟨_, _, hv⟩
end Go.Proofs.YtmcenojiapjcoaaDoor
