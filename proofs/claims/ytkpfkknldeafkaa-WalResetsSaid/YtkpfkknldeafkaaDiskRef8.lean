/- What Crash of the reference of layer 44 returns. No conditions but the sizes. -/
import Derived.Test.YtkpfkknldeafkaaDiskRef7
import Derived.Test.YtkpfkknldeafkaaDiskCrP
import Derived.Deep.QuietTactic
import Derived.BigQuiet
namespace Go.Proofs.Ytkpfkknldeafkaa
open Go.RowKit

/-- what Crash of the reference returns: a disk somewhere in memory -/
def RCPost (d : Dk) (w : World) (e : Ending) (w' : World) : Prop :=
  ∃ sa sc pa pc, e = .returned (.agg #[.slice sa d.S.length sc, .slice pa d.P.length pc, .int .i64 d.fuse, .int .i64 d.ops, .bool d.dead]) ∧ Lists w' sa sc pa pc d ∧ Below w.heap.size w w'
theorem Bx.drewN {b : Nat} {cs : Array Value} {T : TypeId} {W : World} (h : Bx b cs T W) (n : Nat) : Bx b cs T (W.drewN n) := h
theorem bdrewN {B : Nat} {w W : World} (h : Below B w W) (n : Nat) : Below B w (W.drewN n) := h.trans ⟨rfl, rfl, rfl, Nat.le_refl _, fun _ _ => rfl⟩
theorem cell1_below {W W' : World} {b i : Nat} {u : Value} (h : W.cell? ⟨b, i, none⟩ = some u) (hb : Below W.heap.size W W') : W'.cell? ⟨b, i, none⟩ = some u := by
  rw [(bcell hb).1 _ _ (World.block_lt_of_cell? W _ h)]; exact h
theorem cell1_set {W : World} {b i c j : Nat} {u : Value} (v : Value) (h1 : c ≠ b) (h : W.cell? ⟨b, i, none⟩ = some u) : (W.setCell ⟨c, j, none⟩ v).cell? ⟨b, i, none⟩ = some u := by
  rw [World.cell?_setCell_far _ _ _ _ h1]; exact h
theorem stepC_no {P : List (Int × List UInt8)} {last tear : Int} {S : List (List UInt8)} {k m : Nat} {data : List UInt8} (hk : k < P.length) (h1 : P[k].1 = (m : Int)) (h2 : P[k].2 = data) (h : ¬ ((k : Int) = last ∧ 1 ≤ tear ∧ tear < 64)) : stepC P last tear S ⟨k, hk⟩ = S.set m data := by
  unfold stepC; rw [if_neg h]; simp only; rw [h1, h2]; rfl
theorem stepC_yes {P : List (Int × List UInt8)} {last tear : Int} {S : List (List UInt8)} {k m : Nat} {data : List UInt8} (hk : k < P.length) (h1 : P[k].1 = (m : Int)) (h2 : P[k].2 = data) (h : (k : Int) = last ∧ 1 ≤ tear ∧ tear < 64) : stepC P last tear S ⟨k, hk⟩ = S.set m (cutW data (S.getD m []) tear) := by
  unfold stepC; rw [if_pos h]; simp only; rw [h1, h2]; rfl

end Go.Proofs.Ytkpfkknldeafkaa
