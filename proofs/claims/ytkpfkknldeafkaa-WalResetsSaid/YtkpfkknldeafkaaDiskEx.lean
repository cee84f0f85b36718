/- What do and examples of the laws of layer 44 return. No conditions but the sizes. -/
import Derived.Test.YtkpfkknldeafkaaDiskSec
namespace Go.Proofs.Ytkpfkknldeafkaa
open Go.RowKit

theorem cells7_below {W W' : World} {b0 i0 b1 i1 b2 i2 b3 i3 b4 i4 b5 i5 b6 i6 : Nat} {u0 u1 u2 u3 u4 u5 u6 : Value} (h : W.cell? ⟨b0, i0, none⟩ = some u0 ∧ W.cell? ⟨b1, i1, none⟩ = some u1 ∧ W.cell? ⟨b2, i2, none⟩ = some u2 ∧ W.cell? ⟨b3, i3, none⟩ = some u3 ∧ W.cell? ⟨b4, i4, none⟩ = some u4 ∧ W.cell? ⟨b5, i5, none⟩ = some u5 ∧ W.cell? ⟨b6, i6, none⟩ = some u6) (hb : Below W.heap.size W W') : W'.cell? ⟨b0, i0, none⟩ = some u0 ∧ W'.cell? ⟨b1, i1, none⟩ = some u1 ∧ W'.cell? ⟨b2, i2, none⟩ = some u2 ∧ W'.cell? ⟨b3, i3, none⟩ = some u3 ∧ W'.cell? ⟨b4, i4, none⟩ = some u4 ∧ W'.cell? ⟨b5, i5, none⟩ = some u5 ∧ W'.cell? ⟨b6, i6, none⟩ = some u6 := by
  obtain ⟨h0, h1, h2, h3, h4, h5, h6⟩ := h
  exact ⟨cell1_below h0 hb, cell1_below h1 hb, cell1_below h2 hb, cell1_below h3 hb, cell1_below h4 hb, cell1_below h5 hb, cell1_below h6 hb⟩
theorem cells5_below {W W' : World} {b0 i0 b1 i1 b2 i2 b3 i3 b4 i4 : Nat} {u0 u1 u2 u3 u4 : Value} (h : W.cell? ⟨b0, i0, none⟩ = some u0 ∧ W.cell? ⟨b1, i1, none⟩ = some u1 ∧ W.cell? ⟨b2, i2, none⟩ = some u2 ∧ W.cell? ⟨b3, i3, none⟩ = some u3 ∧ W.cell? ⟨b4, i4, none⟩ = some u4) (hb : Below W.heap.size W W') : W'.cell? ⟨b0, i0, none⟩ = some u0 ∧ W'.cell? ⟨b1, i1, none⟩ = some u1 ∧ W'.cell? ⟨b2, i2, none⟩ = some u2 ∧ W'.cell? ⟨b3, i3, none⟩ = some u3 ∧ W'.cell? ⟨b4, i4, none⟩ = some u4 := by
  obtain ⟨h0, h1, h2, h3, h4⟩ := h
  exact ⟨cell1_below h0 hb, cell1_below h1 hb, cell1_below h2 hb, cell1_below h3 hb, cell1_below h4 hb⟩
set_option maxRecDepth 100000 in
theorem cells7_sets {W : World} {x y i0 i1 i2 i3 i4 i5 i6 : Nat} {u0 u1 u2 u3 u4 u5 u6 : Value} (h : W.cell? ⟨x, i0, none⟩ = some u0 ∧ W.cell? ⟨x, i1, none⟩ = some u1 ∧ W.cell? ⟨x, i2, none⟩ = some u2 ∧ W.cell? ⟨x, i3, none⟩ = some u3 ∧ W.cell? ⟨x, i4, none⟩ = some u4 ∧ W.cell? ⟨y, i5, none⟩ = some u5 ∧ W.cell? ⟨y, i6, none⟩ = some u6) (b : Nat) (h1 : b ≠ x) (h2 : b ≠ y) (v0 v1 v2 v3 v4 : Value) :
    let W' := (((((W.setCell ⟨b, 0, none⟩ v0).setCell ⟨b, 1, none⟩ v1).setCell ⟨b, 2, none⟩ v2).setCell ⟨b, 3, none⟩ v3).setCell ⟨b, 4, none⟩ v4)
    W'.cell? ⟨x, i0, none⟩ = some u0 ∧ W'.cell? ⟨x, i1, none⟩ = some u1 ∧ W'.cell? ⟨x, i2, none⟩ = some u2 ∧ W'.cell? ⟨x, i3, none⟩ = some u3 ∧ W'.cell? ⟨x, i4, none⟩ = some u4 ∧ W'.cell? ⟨y, i5, none⟩ = some u5 ∧ W'.cell? ⟨y, i6, none⟩ = some u6 := by
  have f1 : ∀ i u, W.cell? ⟨x, i, none⟩ = some u → (((((W.setCell ⟨b, 0, none⟩ v0).setCell ⟨b, 1, none⟩ v1).setCell ⟨b, 2, none⟩ v2).setCell ⟨b, 3, none⟩ v3).setCell ⟨b, 4, none⟩ v4).cell? ⟨x, i, none⟩ = some u :=
    fun i u h => cell1_set _ h1 (cell1_set _ h1 (cell1_set _ h1 (cell1_set _ h1 (cell1_set _ h1 h))))
  have f2 : ∀ i u, W.cell? ⟨y, i, none⟩ = some u → (((((W.setCell ⟨b, 0, none⟩ v0).setCell ⟨b, 1, none⟩ v1).setCell ⟨b, 2, none⟩ v2).setCell ⟨b, 3, none⟩ v3).setCell ⟨b, 4, none⟩ v4).cell? ⟨y, i, none⟩ = some u :=
    fun i u h => cell1_set _ h2 (cell1_set _ h2 (cell1_set _ h2 (cell1_set _ h2 (cell1_set _ h2 h))))
  obtain ⟨h0, h3, h4, h5, h6, h7, h8⟩ := h
  exact ⟨f1 _ _ h0, f1 _ _ h3, f1 _ _ h4, f1 _ _ h5, f1 _ _ h6, f2 _ _ h7, f2 _ _ h8⟩
def doS (d : Dk) (at_ : Int) (fill : UInt8) : Dk × Int := if at_ < 0 then syncS d else writeS d at_ (List.replicate 64 fill)

end Go.Proofs.Ytkpfkknldeafkaa
