/- The walk of DiskCrashed. No conditions. -/
import Derived.Test.YtkpfkknldeafkaaDiskEx2
import Derived.Test.YtkpfkknldeafkaaDiskArgs
namespace Go.Proofs.Ytkpfkknldeafkaa
open Go.RowKit

set_option maxRecDepth 100000 in
theorem crash_len (d : Dk) (kb : List Bool) (tear : Int) : (crashD d kb tear).S.length = d.S.length ∧ (crashD d kb tear).P.length ≤ d.P.length := by
  cases hv : validB d with
  | false => rw [crash_off kb tear hv]; exact ⟨rfl, Nat.le_refl _⟩
  | true =>
    rw [crash_on kb tear hv]
    obtain ⟨_, hs, hp⟩ := (validB_iff d).1 hv
    exact ⟨(foldC_inv _ tear (fun x hx => (hp x hx).2.2) hs _).1, Nat.zero_le _⟩

theorem disk_bounds {W : World} {sa pa : Option Addr} {sc pc : Nat} {k : Dk} (h1 : StrS W (.slice sa k.S.length sc) k.S) (h2 : WrS W (.slice pa k.P.length pc) k.P) (h3 : k.P.length ≤ 5864062014805) (h4 : k.S.length ≤ 9000000000000) : Lists W sa sc pa pc k := ⟨h1, h2, by omega, h4⟩
end Go.Proofs.Ytkpfkknldeafkaa
