/- The examples of layer 44 hold. No conditions. -/
import Derived.Test.YtkpfkknldeafkaaDiskEx
import Derived.Deep.Cut
import Derived.Deep.CutRange
import Derived.Deep.DeepCutAuto
namespace Go.Proofs.Ytkpfkknldeafkaa
open Go.RowKit

set_option maxRecDepth 100000 in
theorem cells5_sets {W : World} {x i0 i1 i2 i3 i4 : Nat} {u0 u1 u2 u3 u4 : Value} (h : W.cell? ⟨x, i0, none⟩ = some u0 ∧ W.cell? ⟨x, i1, none⟩ = some u1 ∧ W.cell? ⟨x, i2, none⟩ = some u2 ∧ W.cell? ⟨x, i3, none⟩ = some u3 ∧ W.cell? ⟨x, i4, none⟩ = some u4) (b : Nat) (h1 : b ≠ x) (v0 v1 v2 v3 v4 : Value) :
    let W' := (((((W.setCell ⟨b, 0, none⟩ v0).setCell ⟨b, 1, none⟩ v1).setCell ⟨b, 2, none⟩ v2).setCell ⟨b, 3, none⟩ v3).setCell ⟨b, 4, none⟩ v4)
    W'.cell? ⟨x, i0, none⟩ = some u0 ∧ W'.cell? ⟨x, i1, none⟩ = some u1 ∧ W'.cell? ⟨x, i2, none⟩ = some u2 ∧ W'.cell? ⟨x, i3, none⟩ = some u3 ∧ W'.cell? ⟨x, i4, none⟩ = some u4 := by
  have f1 : ∀ i u, W.cell? ⟨x, i, none⟩ = some u → (((((W.setCell ⟨b, 0, none⟩ v0).setCell ⟨b, 1, none⟩ v1).setCell ⟨b, 2, none⟩ v2).setCell ⟨b, 3, none⟩ v3).setCell ⟨b, 4, none⟩ v4).cell? ⟨x, i, none⟩ = some u :=
    fun i u h => cell1_set _ h1 (cell1_set _ h1 (cell1_set _ h1 (cell1_set _ h1 (cell1_set _ h1 h))))
  obtain ⟨h0, h3, h4, h5, h6⟩ := h
  exact ⟨f1 _ _ h0, f1 _ _ h3, f1 _ _ h4, f1 _ _ h5, f1 _ _ h6⟩
theorem small_lists {B : Nat} {d : Dk} {w : World} {sa pa : Option Addr} {sc pc : Nat} (h : Owned B d w (.slice sa d.S.length sc) (.slice pa d.P.length pc)) (hp : d.P.length ≤ 64) (hs : d.S.length ≤ 64) : Lists w sa sc pa pc d := h.lists (by omega) (by omega)
theorem bos_nil (n : Nat) (w : World) : BoS n w (.slice none ([] : List Bool).length 0) [] := ⟨none, 0, rfl, Nat.le_refl _, fun h => absurd rfl h⟩

end Go.Proofs.Ytkpfkknldeafkaa
