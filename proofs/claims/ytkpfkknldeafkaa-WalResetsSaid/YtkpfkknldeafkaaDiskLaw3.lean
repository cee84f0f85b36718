/- The walk of DiskOperations. No conditions. -/
import Derived.Test.YtkpfkknldeafkaaDiskLaw1
namespace Go.Proofs.Ytkpfkknldeafkaa
open Go.RowKit

theorem new_len (n : Int) : (newS n).1.S.length ≤ 1024 ∧ (newS n).1.P.length = 0 := by
  unfold newS
  split
  · rename_i h; simp; omega
  · simp
set_option maxRecDepth 100000 in
theorem write_len (d : Dk) (n : Int) (data : List UInt8) : (writeS d n data).1.S.length = d.S.length ∧ (writeS d n data).1.P.length ≤ d.P.length + 1 := by
  unfold writeS happenS
  split
  · split
    · exact ⟨rfl, by simp⟩
    · split
      · exact ⟨rfl, by simp⟩
      · exact ⟨rfl, by simp [addW]⟩
  · exact ⟨rfl, by simp⟩
set_option maxRecDepth 100000 in
theorem sync_len (d : Dk) : (syncS d).1.S.length = d.S.length ∧ (syncS d).1.P.length ≤ d.P.length := by
  unfold syncS happenS
  split
  · split
    · exact ⟨rfl, by simp⟩
    · split
      · exact ⟨rfl, by simp⟩
      · exact ⟨by simp [syncD, perform_len], by simp [syncD]⟩
  · exact ⟨rfl, by simp⟩
theorem fuse_len (d : Dk) (n : Int) : (fuseS d n).S = d.S ∧ (fuseS d n).P = d.P ∧ (fuseS d n).ops = d.ops ∧ (fuseS d n).dead = d.dead := by
  unfold fuseS; split <;> exact ⟨rfl, rfl, rfl, rfl⟩
theorem Bx.sets_ne {b c : Nat} {cs : Array Value} {T : TypeId} {W : World} (h : Bx b cs T W) (hne : b ≠ c) (u0 u1 u2 u3 u4 : Value) :
    Bx b cs T (((((W.setCell ⟨c, 0, none⟩ u0).setCell ⟨c, 1, none⟩ u1).setCell ⟨c, 2, none⟩ u2).setCell ⟨c, 3, none⟩ u3).setCell ⟨c, 4, none⟩ u4) :=
  ((((h.other hne u0).other hne u1).other hne u2).other hne u3).other hne u4
theorem box_nostr {B o : Nat} {s : List UInt8} {T : TypeId} {W : World} {i2 i3 : Int} {b4 : Bool} {a0 a1 : Option Addr} {n0 c0 n1 c1 : Nat} (h : Bx B #[.slice a0 n0 c0, .slice a1 n1 c1, .int .i64 i2, .int .i64 i3, .bool b4] T W) : W.cell? ⟨B, o, none⟩ ≠ some (strV s) := by
  rw [h.cell o]
  match o with
  | 0 | 1 | 2 | 3 | 4 => intro e; cases e
  | n + 5 => intro e; simp at e
theorem cell1_sets {W : World} {b i c : Nat} {u : Value} (h : W.cell? ⟨b, i, none⟩ = some u) (h1 : c ≠ b) (u0 u1 u2 u3 u4 : Value) :
    (((((W.setCell ⟨c, 0, none⟩ u0).setCell ⟨c, 1, none⟩ u1).setCell ⟨c, 2, none⟩ u2).setCell ⟨c, 3, none⟩ u3).setCell ⟨c, 4, none⟩ u4).cell? ⟨b, i, none⟩ = some u :=
  cell1_set _ h1 (cell1_set _ h1 (cell1_set _ h1 (cell1_set _ h1 (cell1_set _ h1 h))))
set_option maxRecDepth 100000 in
/-- a disk's lists stand when a disk's box is written -/
theorem Lists.sets_box {W : World} {sa pa : Option Addr} {sc pc : Nat} {d : Dk} (h : Lists W sa sc pa pc d) {B : Nat} {T : TypeId} {i2 i3 : Int} {b4 : Bool} {a0 a1 : Option Addr} {n0 c0 n1 c1 : Nat} (hB : Bx B #[.slice a0 n0 c0, .slice a1 n1 c1, .int .i64 i2, .int .i64 i3, .bool b4] T W) (u0 u1 u2 u3 u4 : Value) :
    Lists (((((W.setCell ⟨B, 0, none⟩ u0).setCell ⟨B, 1, none⟩ u1).setCell ⟨B, 2, none⟩ u2).setCell ⟨B, 3, none⟩ u3).setCell ⟨B, 4, none⟩ u4) sa sc pa pc d := by
  obtain ⟨⟨a, cap, he, hc, hx⟩, ⟨a', cap', he', hc', hx'⟩, h3, h4⟩ := h
  refine ⟨⟨a, cap, he, hc, fun hne => ?_⟩, ⟨a', cap', he', hc', fun hne => ?_⟩, h3, h4⟩
  · obtain ⟨b, off, ha, hcell⟩ := hx hne
    refine ⟨b, off, ha, fun i hi => cell1_sets (hcell i hi) ?_ _ _ _ _ _⟩
    intro e; subst e; exact box_nostr hB (hcell i hi)
  · obtain ⟨b, off, ha, hcell⟩ := hx' hne
    refine ⟨b, off, ha, fun i hi => ?_⟩
    have hne2 : B ≠ b := by intro e; subst e; exact box_nostr hB (hcell i hi).2
    exact ⟨cell1_sets (hcell i hi).1 hne2 _ _ _ _ _, cell1_sets (hcell i hi).2 hne2 _ _ _ _ _⟩
theorem lists_fuse {W : World} {sa pa : Option Addr} {sc pc : Nat} {d q : Dk} {n : Int} (h : Lists W sa sc pa pc d) (hq : fuseS d n = q) : Lists W sa sc pa pc q := by
  obtain ⟨g1, g2, _, _⟩ := fuse_len d n
  unfold Lists at h ⊢
  rw [← hq, g1, g2]; exact h

theorem cells15_below {W W' : World} {b0 i0 b1 i1 b2 i2 b3 i3 b4 i4 b5 i5 b6 i6 b7 i7 b8 i8 b9 i9 b10 i10 b11 i11 b12 i12 b13 i13 b14 i14 : Nat} {u0 u1 u2 u3 u4 u5 u6 u7 u8 u9 u10 u11 u12 u13 u14 : Value} (h : W.cell? ⟨b0, i0, none⟩ = some u0 ∧ W.cell? ⟨b1, i1, none⟩ = some u1 ∧ W.cell? ⟨b2, i2, none⟩ = some u2 ∧ W.cell? ⟨b3, i3, none⟩ = some u3 ∧ W.cell? ⟨b4, i4, none⟩ = some u4 ∧ W.cell? ⟨b5, i5, none⟩ = some u5 ∧ W.cell? ⟨b6, i6, none⟩ = some u6 ∧ W.cell? ⟨b7, i7, none⟩ = some u7 ∧ W.cell? ⟨b8, i8, none⟩ = some u8 ∧ W.cell? ⟨b9, i9, none⟩ = some u9 ∧ W.cell? ⟨b10, i10, none⟩ = some u10 ∧ W.cell? ⟨b11, i11, none⟩ = some u11 ∧ W.cell? ⟨b12, i12, none⟩ = some u12 ∧ W.cell? ⟨b13, i13, none⟩ = some u13 ∧ W.cell? ⟨b14, i14, none⟩ = some u14) (hb : Below W.heap.size W W') : W'.cell? ⟨b0, i0, none⟩ = some u0 ∧ W'.cell? ⟨b1, i1, none⟩ = some u1 ∧ W'.cell? ⟨b2, i2, none⟩ = some u2 ∧ W'.cell? ⟨b3, i3, none⟩ = some u3 ∧ W'.cell? ⟨b4, i4, none⟩ = some u4 ∧ W'.cell? ⟨b5, i5, none⟩ = some u5 ∧ W'.cell? ⟨b6, i6, none⟩ = some u6 ∧ W'.cell? ⟨b7, i7, none⟩ = some u7 ∧ W'.cell? ⟨b8, i8, none⟩ = some u8 ∧ W'.cell? ⟨b9, i9, none⟩ = some u9 ∧ W'.cell? ⟨b10, i10, none⟩ = some u10 ∧ W'.cell? ⟨b11, i11, none⟩ = some u11 ∧ W'.cell? ⟨b12, i12, none⟩ = some u12 ∧ W'.cell? ⟨b13, i13, none⟩ = some u13 ∧ W'.cell? ⟨b14, i14, none⟩ = some u14 := by
  obtain ⟨h0, h1, h2, h3, h4, h5, h6, h7, h8, h9, h10, h11, h12, h13, h14⟩ := h
  exact ⟨cell1_below h0 hb, cell1_below h1 hb, cell1_below h2 hb, cell1_below h3 hb, cell1_below h4 hb, cell1_below h5 hb, cell1_below h6 hb, cell1_below h7 hb, cell1_below h8 hb, cell1_below h9 hb, cell1_below h10 hb, cell1_below h11 hb, cell1_below h12 hb, cell1_below h13 hb, cell1_below h14 hb⟩

end Go.Proofs.Ytkpfkknldeafkaa
