/- The walk of the reference's Reset. No conditions. -/
import Derived.Test.YtkpfkknldeafkaaWalT
namespace Go.Proofs.Ytkpfkknldeafkaa
open Go.RowKit

theorem wc_xxxxxyyyyy_5 {W : World} {x y i0 i1 i2 i3 i4 i5 i6 i7 i8 i9 : Nat} {u0 u1 u2 u3 u4 u5 u6 u7 u8 u9 : Value} (h : W.drew.cell? ⟨x, i0, none⟩ = some u0 ∧ W.drew.cell? ⟨x, i1, none⟩ = some u1 ∧ W.drew.cell? ⟨x, i2, none⟩ = some u2 ∧ W.drew.cell? ⟨x, i3, none⟩ = some u3 ∧ W.drew.cell? ⟨x, i4, none⟩ = some u4 ∧ W.drew.cell? ⟨y, i5, none⟩ = some u5 ∧ W.drew.cell? ⟨y, i6, none⟩ = some u6 ∧ W.drew.cell? ⟨y, i7, none⟩ = some u7 ∧ W.drew.cell? ⟨y, i8, none⟩ = some u8 ∧ W.drew.cell? ⟨y, i9, none⟩ = some u9) (b : Nat) (h_x : b ≠ x) (h_y : b ≠ y) (v0 v1 v2 v3 v4 : Value) :
    (((((W.setCell ⟨b, 0, none⟩ v0).setCell ⟨b, 1, none⟩ v1).setCell ⟨b, 2, none⟩ v2).setCell ⟨b, 3, none⟩ v3).setCell ⟨b, 4, none⟩ v4).drew.cell? ⟨x, i0, none⟩ = some u0 ∧ (((((W.setCell ⟨b, 0, none⟩ v0).setCell ⟨b, 1, none⟩ v1).setCell ⟨b, 2, none⟩ v2).setCell ⟨b, 3, none⟩ v3).setCell ⟨b, 4, none⟩ v4).drew.cell? ⟨x, i1, none⟩ = some u1 ∧ (((((W.setCell ⟨b, 0, none⟩ v0).setCell ⟨b, 1, none⟩ v1).setCell ⟨b, 2, none⟩ v2).setCell ⟨b, 3, none⟩ v3).setCell ⟨b, 4, none⟩ v4).drew.cell? ⟨x, i2, none⟩ = some u2 ∧ (((((W.setCell ⟨b, 0, none⟩ v0).setCell ⟨b, 1, none⟩ v1).setCell ⟨b, 2, none⟩ v2).setCell ⟨b, 3, none⟩ v3).setCell ⟨b, 4, none⟩ v4).drew.cell? ⟨x, i3, none⟩ = some u3 ∧ (((((W.setCell ⟨b, 0, none⟩ v0).setCell ⟨b, 1, none⟩ v1).setCell ⟨b, 2, none⟩ v2).setCell ⟨b, 3, none⟩ v3).setCell ⟨b, 4, none⟩ v4).drew.cell? ⟨x, i4, none⟩ = some u4 ∧ (((((W.setCell ⟨b, 0, none⟩ v0).setCell ⟨b, 1, none⟩ v1).setCell ⟨b, 2, none⟩ v2).setCell ⟨b, 3, none⟩ v3).setCell ⟨b, 4, none⟩ v4).drew.cell? ⟨y, i5, none⟩ = some u5 ∧ (((((W.setCell ⟨b, 0, none⟩ v0).setCell ⟨b, 1, none⟩ v1).setCell ⟨b, 2, none⟩ v2).setCell ⟨b, 3, none⟩ v3).setCell ⟨b, 4, none⟩ v4).drew.cell? ⟨y, i6, none⟩ = some u6 ∧ (((((W.setCell ⟨b, 0, none⟩ v0).setCell ⟨b, 1, none⟩ v1).setCell ⟨b, 2, none⟩ v2).setCell ⟨b, 3, none⟩ v3).setCell ⟨b, 4, none⟩ v4).drew.cell? ⟨y, i7, none⟩ = some u7 ∧ (((((W.setCell ⟨b, 0, none⟩ v0).setCell ⟨b, 1, none⟩ v1).setCell ⟨b, 2, none⟩ v2).setCell ⟨b, 3, none⟩ v3).setCell ⟨b, 4, none⟩ v4).drew.cell? ⟨y, i8, none⟩ = some u8 ∧ (((((W.setCell ⟨b, 0, none⟩ v0).setCell ⟨b, 1, none⟩ v1).setCell ⟨b, 2, none⟩ v2).setCell ⟨b, 3, none⟩ v3).setCell ⟨b, 4, none⟩ v4).drew.cell? ⟨y, i9, none⟩ = some u9 := by
  obtain ⟨h0, h1, h2, h3, h4, h5, h6, h7, h8, h9⟩ := h
  exact ⟨drew_cell (cell1_set _ h_x (cell1_set _ h_x (cell1_set _ h_x (cell1_set _ h_x (cell1_set _ h_x (cell_drew h0)))))), drew_cell (cell1_set _ h_x (cell1_set _ h_x (cell1_set _ h_x (cell1_set _ h_x (cell1_set _ h_x (cell_drew h1)))))), drew_cell (cell1_set _ h_x (cell1_set _ h_x (cell1_set _ h_x (cell1_set _ h_x (cell1_set _ h_x (cell_drew h2)))))), drew_cell (cell1_set _ h_x (cell1_set _ h_x (cell1_set _ h_x (cell1_set _ h_x (cell1_set _ h_x (cell_drew h3)))))), drew_cell (cell1_set _ h_x (cell1_set _ h_x (cell1_set _ h_x (cell1_set _ h_x (cell1_set _ h_x (cell_drew h4)))))), drew_cell (cell1_set _ h_y (cell1_set _ h_y (cell1_set _ h_y (cell1_set _ h_y (cell1_set _ h_y (cell_drew h5)))))), drew_cell (cell1_set _ h_y (cell1_set _ h_y (cell1_set _ h_y (cell1_set _ h_y (cell1_set _ h_y (cell_drew h6)))))), drew_cell (cell1_set _ h_y (cell1_set _ h_y (cell1_set _ h_y (cell1_set _ h_y (cell1_set _ h_y (cell_drew h7)))))), drew_cell (cell1_set _ h_y (cell1_set _ h_y (cell1_set _ h_y (cell1_set _ h_y (cell1_set _ h_y (cell_drew h8)))))), drew_cell (cell1_set _ h_y (cell1_set _ h_y (cell1_set _ h_y (cell1_set _ h_y (cell1_set _ h_y (cell_drew h9))))))⟩
theorem wc_xxxxxyyyyy_7 {W : World} {x y i0 i1 i2 i3 i4 i5 i6 i7 i8 i9 : Nat} {u0 u1 u2 u3 u4 u5 u6 u7 u8 u9 : Value} (h : W.drew.cell? ⟨x, i0, none⟩ = some u0 ∧ W.drew.cell? ⟨x, i1, none⟩ = some u1 ∧ W.drew.cell? ⟨x, i2, none⟩ = some u2 ∧ W.drew.cell? ⟨x, i3, none⟩ = some u3 ∧ W.drew.cell? ⟨x, i4, none⟩ = some u4 ∧ W.drew.cell? ⟨y, i5, none⟩ = some u5 ∧ W.drew.cell? ⟨y, i6, none⟩ = some u6 ∧ W.drew.cell? ⟨y, i7, none⟩ = some u7 ∧ W.drew.cell? ⟨y, i8, none⟩ = some u8 ∧ W.drew.cell? ⟨y, i9, none⟩ = some u9) (b : Nat) (h_x : b ≠ x) (h_y : b ≠ y) (v0 v1 v2 v3 v4 v5 v6 : Value) :
    (((((((W.setCell ⟨b, 0, none⟩ v0).setCell ⟨b, 1, none⟩ v1).setCell ⟨b, 2, none⟩ v2).setCell ⟨b, 3, none⟩ v3).setCell ⟨b, 4, none⟩ v4).setCell ⟨b, 5, none⟩ v5).setCell ⟨b, 6, none⟩ v6).drew.cell? ⟨x, i0, none⟩ = some u0 ∧ (((((((W.setCell ⟨b, 0, none⟩ v0).setCell ⟨b, 1, none⟩ v1).setCell ⟨b, 2, none⟩ v2).setCell ⟨b, 3, none⟩ v3).setCell ⟨b, 4, none⟩ v4).setCell ⟨b, 5, none⟩ v5).setCell ⟨b, 6, none⟩ v6).drew.cell? ⟨x, i1, none⟩ = some u1 ∧ (((((((W.setCell ⟨b, 0, none⟩ v0).setCell ⟨b, 1, none⟩ v1).setCell ⟨b, 2, none⟩ v2).setCell ⟨b, 3, none⟩ v3).setCell ⟨b, 4, none⟩ v4).setCell ⟨b, 5, none⟩ v5).setCell ⟨b, 6, none⟩ v6).drew.cell? ⟨x, i2, none⟩ = some u2 ∧ (((((((W.setCell ⟨b, 0, none⟩ v0).setCell ⟨b, 1, none⟩ v1).setCell ⟨b, 2, none⟩ v2).setCell ⟨b, 3, none⟩ v3).setCell ⟨b, 4, none⟩ v4).setCell ⟨b, 5, none⟩ v5).setCell ⟨b, 6, none⟩ v6).drew.cell? ⟨x, i3, none⟩ = some u3 ∧ (((((((W.setCell ⟨b, 0, none⟩ v0).setCell ⟨b, 1, none⟩ v1).setCell ⟨b, 2, none⟩ v2).setCell ⟨b, 3, none⟩ v3).setCell ⟨b, 4, none⟩ v4).setCell ⟨b, 5, none⟩ v5).setCell ⟨b, 6, none⟩ v6).drew.cell? ⟨x, i4, none⟩ = some u4 ∧ (((((((W.setCell ⟨b, 0, none⟩ v0).setCell ⟨b, 1, none⟩ v1).setCell ⟨b, 2, none⟩ v2).setCell ⟨b, 3, none⟩ v3).setCell ⟨b, 4, none⟩ v4).setCell ⟨b, 5, none⟩ v5).setCell ⟨b, 6, none⟩ v6).drew.cell? ⟨y, i5, none⟩ = some u5 ∧ (((((((W.setCell ⟨b, 0, none⟩ v0).setCell ⟨b, 1, none⟩ v1).setCell ⟨b, 2, none⟩ v2).setCell ⟨b, 3, none⟩ v3).setCell ⟨b, 4, none⟩ v4).setCell ⟨b, 5, none⟩ v5).setCell ⟨b, 6, none⟩ v6).drew.cell? ⟨y, i6, none⟩ = some u6 ∧ (((((((W.setCell ⟨b, 0, none⟩ v0).setCell ⟨b, 1, none⟩ v1).setCell ⟨b, 2, none⟩ v2).setCell ⟨b, 3, none⟩ v3).setCell ⟨b, 4, none⟩ v4).setCell ⟨b, 5, none⟩ v5).setCell ⟨b, 6, none⟩ v6).drew.cell? ⟨y, i7, none⟩ = some u7 ∧ (((((((W.setCell ⟨b, 0, none⟩ v0).setCell ⟨b, 1, none⟩ v1).setCell ⟨b, 2, none⟩ v2).setCell ⟨b, 3, none⟩ v3).setCell ⟨b, 4, none⟩ v4).setCell ⟨b, 5, none⟩ v5).setCell ⟨b, 6, none⟩ v6).drew.cell? ⟨y, i8, none⟩ = some u8 ∧ (((((((W.setCell ⟨b, 0, none⟩ v0).setCell ⟨b, 1, none⟩ v1).setCell ⟨b, 2, none⟩ v2).setCell ⟨b, 3, none⟩ v3).setCell ⟨b, 4, none⟩ v4).setCell ⟨b, 5, none⟩ v5).setCell ⟨b, 6, none⟩ v6).drew.cell? ⟨y, i9, none⟩ = some u9 := by
  obtain ⟨h0, h1, h2, h3, h4, h5, h6, h7, h8, h9⟩ := h
  exact ⟨drew_cell (cell1_set _ h_x (cell1_set _ h_x (cell1_set _ h_x (cell1_set _ h_x (cell1_set _ h_x (cell1_set _ h_x (cell1_set _ h_x (cell_drew h0)))))))), drew_cell (cell1_set _ h_x (cell1_set _ h_x (cell1_set _ h_x (cell1_set _ h_x (cell1_set _ h_x (cell1_set _ h_x (cell1_set _ h_x (cell_drew h1)))))))), drew_cell (cell1_set _ h_x (cell1_set _ h_x (cell1_set _ h_x (cell1_set _ h_x (cell1_set _ h_x (cell1_set _ h_x (cell1_set _ h_x (cell_drew h2)))))))), drew_cell (cell1_set _ h_x (cell1_set _ h_x (cell1_set _ h_x (cell1_set _ h_x (cell1_set _ h_x (cell1_set _ h_x (cell1_set _ h_x (cell_drew h3)))))))), drew_cell (cell1_set _ h_x (cell1_set _ h_x (cell1_set _ h_x (cell1_set _ h_x (cell1_set _ h_x (cell1_set _ h_x (cell1_set _ h_x (cell_drew h4)))))))), drew_cell (cell1_set _ h_y (cell1_set _ h_y (cell1_set _ h_y (cell1_set _ h_y (cell1_set _ h_y (cell1_set _ h_y (cell1_set _ h_y (cell_drew h5)))))))), drew_cell (cell1_set _ h_y (cell1_set _ h_y (cell1_set _ h_y (cell1_set _ h_y (cell1_set _ h_y (cell1_set _ h_y (cell1_set _ h_y (cell_drew h6)))))))), drew_cell (cell1_set _ h_y (cell1_set _ h_y (cell1_set _ h_y (cell1_set _ h_y (cell1_set _ h_y (cell1_set _ h_y (cell1_set _ h_y (cell_drew h7)))))))), drew_cell (cell1_set _ h_y (cell1_set _ h_y (cell1_set _ h_y (cell1_set _ h_y (cell1_set _ h_y (cell1_set _ h_y (cell1_set _ h_y (cell_drew h8)))))))), drew_cell (cell1_set _ h_y (cell1_set _ h_y (cell1_set _ h_y (cell1_set _ h_y (cell1_set _ h_y (cell1_set _ h_y (cell1_set _ h_y (cell_drew h9))))))))⟩
theorem wcells5_below {W W' : World} {b0 i0 b1 i1 b2 i2 b3 i3 b4 i4 : Nat} {u0 u1 u2 u3 u4 : Value} (h : W.cell? ⟨b0, i0, none⟩ = some u0 ∧ W.cell? ⟨b1, i1, none⟩ = some u1 ∧ W.cell? ⟨b2, i2, none⟩ = some u2 ∧ W.cell? ⟨b3, i3, none⟩ = some u3 ∧ W.cell? ⟨b4, i4, none⟩ = some u4) (hb : Below W.heap.size W W') : W'.cell? ⟨b0, i0, none⟩ = some u0 ∧ W'.cell? ⟨b1, i1, none⟩ = some u1 ∧ W'.cell? ⟨b2, i2, none⟩ = some u2 ∧ W'.cell? ⟨b3, i3, none⟩ = some u3 ∧ W'.cell? ⟨b4, i4, none⟩ = some u4 := by
  obtain ⟨h0, h1, h2, h3, h4⟩ := h
  exact ⟨cell1_below h0 hb, cell1_below h1 hb, cell1_below h2 hb, cell1_below h3 hb, cell1_below h4 hb⟩
theorem vcells5_sets {W : World} {x i0 i1 i2 i3 i4 : Nat} {u0 u1 u2 u3 u4 : Value} (h : W.cell? ⟨x, i0, none⟩ = some u0 ∧ W.cell? ⟨x, i1, none⟩ = some u1 ∧ W.cell? ⟨x, i2, none⟩ = some u2 ∧ W.cell? ⟨x, i3, none⟩ = some u3 ∧ W.cell? ⟨x, i4, none⟩ = some u4) (b : Nat) (h_x : b ≠ x) (v0 v1 v2 v3 v4 : Value) :
    (((((W.setCell ⟨b, 0, none⟩ v0).setCell ⟨b, 1, none⟩ v1).setCell ⟨b, 2, none⟩ v2).setCell ⟨b, 3, none⟩ v3).setCell ⟨b, 4, none⟩ v4).cell? ⟨x, i0, none⟩ = some u0 ∧ (((((W.setCell ⟨b, 0, none⟩ v0).setCell ⟨b, 1, none⟩ v1).setCell ⟨b, 2, none⟩ v2).setCell ⟨b, 3, none⟩ v3).setCell ⟨b, 4, none⟩ v4).cell? ⟨x, i1, none⟩ = some u1 ∧ (((((W.setCell ⟨b, 0, none⟩ v0).setCell ⟨b, 1, none⟩ v1).setCell ⟨b, 2, none⟩ v2).setCell ⟨b, 3, none⟩ v3).setCell ⟨b, 4, none⟩ v4).cell? ⟨x, i2, none⟩ = some u2 ∧ (((((W.setCell ⟨b, 0, none⟩ v0).setCell ⟨b, 1, none⟩ v1).setCell ⟨b, 2, none⟩ v2).setCell ⟨b, 3, none⟩ v3).setCell ⟨b, 4, none⟩ v4).cell? ⟨x, i3, none⟩ = some u3 ∧ (((((W.setCell ⟨b, 0, none⟩ v0).setCell ⟨b, 1, none⟩ v1).setCell ⟨b, 2, none⟩ v2).setCell ⟨b, 3, none⟩ v3).setCell ⟨b, 4, none⟩ v4).cell? ⟨x, i4, none⟩ = some u4 := by
  obtain ⟨h0, h1, h2, h3, h4⟩ := h
  exact ⟨cell1_sets h0 h_x _ _ _ _ _, cell1_sets h1 h_x _ _ _ _ _, cell1_sets h2 h_x _ _ _ _ _, cell1_sets h3 h_x _ _ _ _ _, cell1_sets h4 h_x _ _ _ _ _⟩
set_option maxRecDepth 100000 in
set_option maxHeartbeats 64000000 in
theorem Rres_any (sa pa : Option Addr) (sc pc : Nat) (d : Dk) (j : Jn) (l : List UInt8) (p : Int) (w : World) (hD : Lists w sa sc pa pc d) (hl : l.length ≤ 1000000000000000) (hp : d.P.length ≤ 8000000000000) :
    Calls Try.prog 46 #[.agg #[.slice sa d.S.length sc, .slice pa d.P.length pc, .int .i64 d.fuse, .int .i64 d.ops, .bool d.dead], .agg (jnV j), .string (bs l), .int .i64 p] w (APost (resW d j l p) w) := by
  simp only [jnV]
  have hb0 := (((((Below.refl w.heap.size w).alloc (Nat.le_refl _) (.cells #[.slice sa d.S.length sc, .slice pa d.P.length pc, .int .i64 d.fuse, .int .i64 d.ops, .bool d.dead] 38)).alloc (by simp) (.cells #[.int .i64 j.x.g, .int .i64 j.x.e, .int .i64 j.x.a, .int .i64 j.x.z, .int .i64 j.x.p, .int .i64 j.n, .int .i64 j.r] 57)).alloc (by simp; try omega) (.cells #[.slice none 0 0, .slice none 0 0, .int .i64 0, .int .i64 0, .bool false] 38)).alloc (by simp; try omega) (.cells #[.int .i64 0, .int .i64 0, .int .i64 0, .int .i64 0, .int .i64 0, .int .i64 0, .int .i64 0] 57))
  have h_HX := ((((Bx.new w #[.slice sa d.S.length sc, .slice pa d.P.length pc, .int .i64 d.fuse, .int .i64 d.ops, .bool d.dead] 38).alloc (.cells #[.int .i64 j.x.g, .int .i64 j.x.e, .int .i64 j.x.a, .int .i64 j.x.z, .int .i64 j.x.p, .int .i64 j.n, .int .i64 j.r] 57)).alloc (.cells #[.slice none 0 0, .slice none 0 0, .int .i64 0, .int .i64 0, .bool false] 38)).alloc (.cells #[.int .i64 0, .int .i64 0, .int .i64 0, .int .i64 0, .int .i64 0, .int .i64 0, .int .i64 0] 57))
  have h_HJ := (((Bx.new (w.alloc (.cells #[.slice sa d.S.length sc, .slice pa d.P.length pc, .int .i64 d.fuse, .int .i64 d.ops, .bool d.dead] 38)) #[.int .i64 j.x.g, .int .i64 j.x.e, .int .i64 j.x.a, .int .i64 j.x.z, .int .i64 j.x.p, .int .i64 j.n, .int .i64 j.r] 57).alloc (.cells #[.slice none 0 0, .slice none 0 0, .int .i64 0, .int .i64 0, .bool false] 38)).alloc (.cells #[.int .i64 0, .int .i64 0, .int .i64 0, .int .i64 0, .int .i64 0, .int .i64 0, .int .i64 0] 57))
  rw [show (w.alloc (.cells #[.slice sa d.S.length sc, .slice pa d.P.length pc, .int .i64 d.fuse, .int .i64 d.ops, .bool d.dead] 38)).heap.size = w.heap.size + 1 by simp] at h_HJ
  have h_HR := ((Bx.new ((w.alloc (.cells #[.slice sa d.S.length sc, .slice pa d.P.length pc, .int .i64 d.fuse, .int .i64 d.ops, .bool d.dead] 38)).alloc (.cells #[.int .i64 j.x.g, .int .i64 j.x.e, .int .i64 j.x.a, .int .i64 j.x.z, .int .i64 j.x.p, .int .i64 j.n, .int .i64 j.r] 57)) #[.slice none 0 0, .slice none 0 0, .int .i64 0, .int .i64 0, .bool false] 38).alloc (.cells #[.int .i64 0, .int .i64 0, .int .i64 0, .int .i64 0, .int .i64 0, .int .i64 0, .int .i64 0] 57))
  rw [show ((w.alloc (.cells #[.slice sa d.S.length sc, .slice pa d.P.length pc, .int .i64 d.fuse, .int .i64 d.ops, .bool d.dead] 38)).alloc (.cells #[.int .i64 j.x.g, .int .i64 j.x.e, .int .i64 j.x.a, .int .i64 j.x.z, .int .i64 j.x.p, .int .i64 j.n, .int .i64 j.r] 57)).heap.size = w.heap.size + 2 by simp] at h_HR
  have h_HJ2 := (Bx.new (((w.alloc (.cells #[.slice sa d.S.length sc, .slice pa d.P.length pc, .int .i64 d.fuse, .int .i64 d.ops, .bool d.dead] 38)).alloc (.cells #[.int .i64 j.x.g, .int .i64 j.x.e, .int .i64 j.x.a, .int .i64 j.x.z, .int .i64 j.x.p, .int .i64 j.n, .int .i64 j.r] 57)).alloc (.cells #[.slice none 0 0, .slice none 0 0, .int .i64 0, .int .i64 0, .bool false] 38)) #[.int .i64 0, .int .i64 0, .int .i64 0, .int .i64 0, .int .i64 0, .int .i64 0, .int .i64 0] 57)
  rw [show (((w.alloc (.cells #[.slice sa d.S.length sc, .slice pa d.P.length pc, .int .i64 d.fuse, .int .i64 d.ops, .bool d.dead] 38)).alloc (.cells #[.int .i64 j.x.g, .int .i64 j.x.e, .int .i64 j.x.a, .int .i64 j.x.z, .int .i64 j.x.p, .int .i64 j.n, .int .i64 j.r] 57)).alloc (.cells #[.slice none 0 0, .slice none 0 0, .int .i64 0, .int .i64 0, .bool false] 38)).heap.size = w.heap.size + 3 by simp] at h_HJ2
  have HB := Lib.hid hb0; have HX := Lib.hid h_HX; have HJ := Lib.hid h_HJ; have HR := Lib.hid h_HR; have HJ2 := Lib.hid h_HJ2
  clear hb0 h_HX h_HJ h_HR h_HJ2
  have HD := Lib.hid (hD.below HB.out)
  go_enter Try.func46, Try.ntmps46
  go_upto_region 1 with (fail)
  generalize hW0 : (((w.alloc (.cells #[.slice sa d.S.length sc, .slice pa d.P.length pc, .int .i64 d.fuse, .int .i64 d.ops, .bool d.dead] 38)).alloc (.cells #[.int .i64 j.x.g, .int .i64 j.x.e, .int .i64 j.x.a, .int .i64 j.x.z, .int .i64 j.x.p, .int .i64 j.n, .int .i64 j.r] 57)).alloc (.cells #[.slice none 0 0, .slice none 0 0, .int .i64 0, .int .i64 0, .bool false] 38)).alloc (.cells #[.int .i64 0, .int .i64 0, .int .i64 0, .int .i64 0, .int .i64 0, .int .i64 0, .int .i64 0] 57) = v0 at HB HD HX HJ HR HJ2 ⊢
  clear hW0
  have x0 : v0.cell? ⟨w.heap.size, 0, none⟩ = some (.slice sa d.S.length sc) := HX.out.cell 0
  have x1 : v0.cell? ⟨w.heap.size, 1, none⟩ = some (.slice pa d.P.length pc) := HX.out.cell 1
  have x2 : v0.cell? ⟨w.heap.size, 2, none⟩ = some (.int .i64 d.fuse) := HX.out.cell 2
  have x3 : v0.cell? ⟨w.heap.size, 3, none⟩ = some (.int .i64 d.ops) := HX.out.cell 3
  have x4 : v0.cell? ⟨w.heap.size, 4, none⟩ = some (.bool d.dead) := HX.out.cell 4
  cases hv : validB d with
  | false =>
    have HV := Lib.hid hv; clear hv
    go_wp2_with fail
    refine (RValid_any _ _ _ _ d _ HD.out).mono ?_
    rw [HV.out]
    rintro er w1 ⟨rfl, hb1⟩
    clear x0 x1 x2 x3 x4
    have HX := Lib.hid (HX.out.call hb1)
    have HJ := Lib.hid (HJ.out.call hb1)
    have HR := Lib.hid (HR.out.call hb1)
    have HJ2 := Lib.hid (HJ2.out.call hb1)
    have HD := Lib.hid (HD.out.below hb1)
    have HB := Lib.hid (btrans HB.out HB.out.size hb1); clear hb1
    have hres : resW d j l p = (d, j0, 1) := resE_arg (resArg_no (by rw [HV.out]; simp))
    have HRES := Lib.hid hres; clear hres
    have zj := HJ2.out.lt
    have x0 : w1.cell? ⟨w.heap.size, 0, none⟩ = some (.slice sa d.S.length sc) := HX.out.cell 0
    have x1 : w1.cell? ⟨w.heap.size, 1, none⟩ = some (.slice pa d.P.length pc) := HX.out.cell 1
    have x2 : w1.cell? ⟨w.heap.size, 2, none⟩ = some (.int .i64 d.fuse) := HX.out.cell 2
    have x3 : w1.cell? ⟨w.heap.size, 3, none⟩ = some (.int .i64 d.ops) := HX.out.cell 3
    have x4 : w1.cell? ⟨w.heap.size, 4, none⟩ = some (.bool d.dead) := HX.out.cell 4
    have r0 : w1.cell? ⟨(w.heap.size + 2), 0, none⟩ = some (.slice none 0 0) := HR.out.cell 0
    have r1 : w1.cell? ⟨(w.heap.size + 2), 1, none⟩ = some (.slice none 0 0) := HR.out.cell 1
    have r2 : w1.cell? ⟨(w.heap.size + 2), 2, none⟩ = some (.int .i64 0) := HR.out.cell 2
    have r3 : w1.cell? ⟨(w.heap.size + 2), 3, none⟩ = some (.int .i64 0) := HR.out.cell 3
    have r4 : w1.cell? ⟨(w.heap.size + 2), 4, none⟩ = some (.bool false) := HR.out.cell 4
    have q0 : w1.cell? ⟨(w.heap.size + 3), 0, none⟩ = some (.int .i64 0) := HJ2.out.cell 0
    have q1 : w1.cell? ⟨(w.heap.size + 3), 1, none⟩ = some (.int .i64 0) := HJ2.out.cell 1
    have q2 : w1.cell? ⟨(w.heap.size + 3), 2, none⟩ = some (.int .i64 0) := HJ2.out.cell 2
    have q3 : w1.cell? ⟨(w.heap.size + 3), 3, none⟩ = some (.int .i64 0) := HJ2.out.cell 3
    have q4 : w1.cell? ⟨(w.heap.size + 3), 4, none⟩ = some (.int .i64 0) := HJ2.out.cell 4
    have q5 : w1.cell? ⟨(w.heap.size + 3), 5, none⟩ = some (.int .i64 0) := HJ2.out.cell 5
    have q6 : w1.cell? ⟨(w.heap.size + 3), 6, none⟩ = some (.int .i64 0) := HJ2.out.cell 6
    have f0 := HR.out.free 0
    have f1 := HR.out.free 1
    have f2 := HR.out.free 2
    have f3 := HR.out.free 3
    have f4 := HR.out.free 4
    have p0 := HJ2.out.free 0
    have p1 := HJ2.out.free 1
    have p2 := HJ2.out.free 2
    have p3 := HJ2.out.free 3
    have p4 := HJ2.out.free 4
    have p5 := HJ2.out.free 5
    have p6 := HJ2.out.free 6
    have HJ3 := Lib.hid (HJ2.out.sets_ne (c := w.heap.size + 2) (by omega) (.slice sa d.S.length sc) (.slice pa d.P.length pc) (.int .i64 d.fuse) (.int .i64 d.ops) (.bool d.dead))
    have KR := Lib.hid ((HR.out.sets (.slice sa d.S.length sc) (.slice pa d.P.length pc) (.int .i64 d.fuse) (.int .i64 d.ops) (.bool d.dead)).sets7_ne (c := w.heap.size + 3) (by omega) (.int .i64 0) (.int .i64 0) (.int .i64 0) (.int .i64 0) (.int .i64 0) (.int .i64 0) (.int .i64 0))
    have KJ := Lib.hid (HJ3.out.sets7 (.int .i64 0) (.int .i64 0) (.int .i64 0) (.int .i64 0) (.int .i64 0) (.int .i64 0) (.int .i64 0))
    have KL := Lib.hid ((HD.out.sets_box HR.out (.slice sa d.S.length sc) (.slice pa d.P.length pc) (.int .i64 d.fuse) (.int .i64 d.ops) (.bool d.dead)).sets7i HJ3.out (.int .i64 0) (.int .i64 0) (.int .i64 0) (.int .i64 0) (.int .i64 0) (.int .i64 0) (.int .i64 0))
    have KB := Lib.hid (below_sets7 (below_sets HB.out (w.heap.size + 2) (by omega) (.slice sa d.S.length sc) (.slice pa d.P.length pc) (.int .i64 d.fuse) (.int .i64 d.ops) (.bool d.dead)) (w.heap.size + 3) (by omega) (.int .i64 0) (.int .i64 0) (.int .i64 0) (.int .i64 0) (.int .i64 0) (.int .i64 0) (.int .i64 0))
    go_wp2
    have k0 := KR.out.cell 0
    have k1 := KR.out.cell 1
    have k2 := KR.out.cell 2
    have k3 := KR.out.cell 3
    have k4 := KR.out.cell 4
    have m0 := KJ.out.cell 0
    have m1 := KJ.out.cell 1
    have m2 := KJ.out.cell 2
    have m3 := KJ.out.cell 3
    have m4 := KJ.out.cell 4
    have m5 := KJ.out.cell 5
    have m6 := KJ.out.cell 6
    simp only [List.getElem?_toArray, List.getElem?_cons_zero, List.getElem?_cons_succ] at k0 k1 k2 k3 k4 m0 m1 m2 m3 m4 m5 m6
    refine bodyPost_ret (v := .tuple #[.agg #[.slice sa d.S.length sc, .slice pa d.P.length pc, .int .i64 d.fuse, .int .i64 d.ops, .bool d.dead], .agg #[.int .i64 0, .int .i64 0, .int .i64 0, .int .i64 0, .int .i64 0, .int .i64 0, .int .i64 0], .int .i64 1]) (by simp [results, Try.results46, go_sem, k0, k1, k2, k3, k4, m0, m1, m2, m3, m4, m5, m6]) rfl ?_
    exact APost.mk (d, j0, 1) sa sc pa pc rfl KL.out KB.out HRES.out
  | true =>
    have HV := Lib.hid hv; clear hv
    go_wp2_with fail
    refine (RValid_any _ _ _ _ d _ HD.out).mono ?_
    rw [HV.out]
    rintro er w1 ⟨rfl, hb1⟩
    clear x0 x1 x2 x3 x4
    have HX := Lib.hid (HX.out.call hb1)
    have HJ := Lib.hid (HJ.out.call hb1)
    have HR := Lib.hid (HR.out.call hb1)
    have HJ2 := Lib.hid (HJ2.out.call hb1)
    have HD := Lib.hid (HD.out.below hb1)
    have HB := Lib.hid (btrans HB.out HB.out.size hb1); clear hb1
    have x0 : w1.cell? ⟨w.heap.size, 0, none⟩ = some (.slice sa d.S.length sc) := HX.out.cell 0
    have x1 : w1.cell? ⟨w.heap.size, 1, none⟩ = some (.slice pa d.P.length pc) := HX.out.cell 1
    have x2 : w1.cell? ⟨w.heap.size, 2, none⟩ = some (.int .i64 d.fuse) := HX.out.cell 2
    have x3 : w1.cell? ⟨w.heap.size, 3, none⟩ = some (.int .i64 d.ops) := HX.out.cell 3
    have x4 : w1.cell? ⟨w.heap.size, 4, none⟩ = some (.bool d.dead) := HX.out.cell 4
    have y0 : w1.cell? ⟨(w.heap.size + 1), 0, none⟩ = some (.int .i64 j.x.g) := HJ.out.cell 0
    have y1 : w1.cell? ⟨(w.heap.size + 1), 1, none⟩ = some (.int .i64 j.x.e) := HJ.out.cell 1
    have y2 : w1.cell? ⟨(w.heap.size + 1), 2, none⟩ = some (.int .i64 j.x.a) := HJ.out.cell 2
    have y3 : w1.cell? ⟨(w.heap.size + 1), 3, none⟩ = some (.int .i64 j.x.z) := HJ.out.cell 3
    have y4 : w1.cell? ⟨(w.heap.size + 1), 4, none⟩ = some (.int .i64 j.x.p) := HJ.out.cell 4
    have y5 : w1.cell? ⟨(w.heap.size + 1), 5, none⟩ = some (.int .i64 j.n) := HJ.out.cell 5
    have y6 : w1.cell? ⟨(w.heap.size + 1), 6, none⟩ = some (.int .i64 j.r) := HJ.out.cell 6
    cases hj : jB d j with
    | false =>
      have HJB := Lib.hid hj; clear hj
      go_wp2_with fail
      refine (Rvalid_any _ _ _ _ d j _ HD.out).mono ?_
      rw [HJB.out]
      rintro er w2 ⟨rfl, hb1⟩
      clear x0 x1 x2 x3 x4
      clear y0 y1 y2 y3 y4 y5 y6
      have HX := Lib.hid (HX.out.call hb1)
      have HJ := Lib.hid (HJ.out.call hb1)
      have HR := Lib.hid (HR.out.call hb1)
      have HJ2 := Lib.hid (HJ2.out.call hb1)
      have HD := Lib.hid (HD.out.below hb1)
      have HB := Lib.hid (btrans HB.out HB.out.size hb1); clear hb1
      have hres : resW d j l p = (d, j0, 1) := resE_arg (resArg_no (by rw [HJB.out]; simp))
      have HRES := Lib.hid hres; clear hres
      have zj := HJ2.out.lt
      have x0 : w2.cell? ⟨w.heap.size, 0, none⟩ = some (.slice sa d.S.length sc) := HX.out.cell 0
      have x1 : w2.cell? ⟨w.heap.size, 1, none⟩ = some (.slice pa d.P.length pc) := HX.out.cell 1
      have x2 : w2.cell? ⟨w.heap.size, 2, none⟩ = some (.int .i64 d.fuse) := HX.out.cell 2
      have x3 : w2.cell? ⟨w.heap.size, 3, none⟩ = some (.int .i64 d.ops) := HX.out.cell 3
      have x4 : w2.cell? ⟨w.heap.size, 4, none⟩ = some (.bool d.dead) := HX.out.cell 4
      have r0 : w2.cell? ⟨(w.heap.size + 2), 0, none⟩ = some (.slice none 0 0) := HR.out.cell 0
      have r1 : w2.cell? ⟨(w.heap.size + 2), 1, none⟩ = some (.slice none 0 0) := HR.out.cell 1
      have r2 : w2.cell? ⟨(w.heap.size + 2), 2, none⟩ = some (.int .i64 0) := HR.out.cell 2
      have r3 : w2.cell? ⟨(w.heap.size + 2), 3, none⟩ = some (.int .i64 0) := HR.out.cell 3
      have r4 : w2.cell? ⟨(w.heap.size + 2), 4, none⟩ = some (.bool false) := HR.out.cell 4
      have q0 : w2.cell? ⟨(w.heap.size + 3), 0, none⟩ = some (.int .i64 0) := HJ2.out.cell 0
      have q1 : w2.cell? ⟨(w.heap.size + 3), 1, none⟩ = some (.int .i64 0) := HJ2.out.cell 1
      have q2 : w2.cell? ⟨(w.heap.size + 3), 2, none⟩ = some (.int .i64 0) := HJ2.out.cell 2
      have q3 : w2.cell? ⟨(w.heap.size + 3), 3, none⟩ = some (.int .i64 0) := HJ2.out.cell 3
      have q4 : w2.cell? ⟨(w.heap.size + 3), 4, none⟩ = some (.int .i64 0) := HJ2.out.cell 4
      have q5 : w2.cell? ⟨(w.heap.size + 3), 5, none⟩ = some (.int .i64 0) := HJ2.out.cell 5
      have q6 : w2.cell? ⟨(w.heap.size + 3), 6, none⟩ = some (.int .i64 0) := HJ2.out.cell 6
      have f0 := HR.out.free 0
      have f1 := HR.out.free 1
      have f2 := HR.out.free 2
      have f3 := HR.out.free 3
      have f4 := HR.out.free 4
      have p0 := HJ2.out.free 0
      have p1 := HJ2.out.free 1
      have p2 := HJ2.out.free 2
      have p3 := HJ2.out.free 3
      have p4 := HJ2.out.free 4
      have p5 := HJ2.out.free 5
      have p6 := HJ2.out.free 6
      have HJ3 := Lib.hid (HJ2.out.sets_ne (c := w.heap.size + 2) (by omega) (.slice sa d.S.length sc) (.slice pa d.P.length pc) (.int .i64 d.fuse) (.int .i64 d.ops) (.bool d.dead))
      have KR := Lib.hid ((HR.out.sets (.slice sa d.S.length sc) (.slice pa d.P.length pc) (.int .i64 d.fuse) (.int .i64 d.ops) (.bool d.dead)).sets7_ne (c := w.heap.size + 3) (by omega) (.int .i64 0) (.int .i64 0) (.int .i64 0) (.int .i64 0) (.int .i64 0) (.int .i64 0) (.int .i64 0))
      have KJ := Lib.hid (HJ3.out.sets7 (.int .i64 0) (.int .i64 0) (.int .i64 0) (.int .i64 0) (.int .i64 0) (.int .i64 0) (.int .i64 0))
      have KL := Lib.hid ((HD.out.sets_box HR.out (.slice sa d.S.length sc) (.slice pa d.P.length pc) (.int .i64 d.fuse) (.int .i64 d.ops) (.bool d.dead)).sets7i HJ3.out (.int .i64 0) (.int .i64 0) (.int .i64 0) (.int .i64 0) (.int .i64 0) (.int .i64 0) (.int .i64 0))
      have KB := Lib.hid (below_sets7 (below_sets HB.out (w.heap.size + 2) (by omega) (.slice sa d.S.length sc) (.slice pa d.P.length pc) (.int .i64 d.fuse) (.int .i64 d.ops) (.bool d.dead)) (w.heap.size + 3) (by omega) (.int .i64 0) (.int .i64 0) (.int .i64 0) (.int .i64 0) (.int .i64 0) (.int .i64 0) (.int .i64 0))
      go_wp2
      have k0 := KR.out.cell 0
      have k1 := KR.out.cell 1
      have k2 := KR.out.cell 2
      have k3 := KR.out.cell 3
      have k4 := KR.out.cell 4
      have m0 := KJ.out.cell 0
      have m1 := KJ.out.cell 1
      have m2 := KJ.out.cell 2
      have m3 := KJ.out.cell 3
      have m4 := KJ.out.cell 4
      have m5 := KJ.out.cell 5
      have m6 := KJ.out.cell 6
      simp only [List.getElem?_toArray, List.getElem?_cons_zero, List.getElem?_cons_succ] at k0 k1 k2 k3 k4 m0 m1 m2 m3 m4 m5 m6
      refine bodyPost_ret (v := .tuple #[.agg #[.slice sa d.S.length sc, .slice pa d.P.length pc, .int .i64 d.fuse, .int .i64 d.ops, .bool d.dead], .agg #[.int .i64 0, .int .i64 0, .int .i64 0, .int .i64 0, .int .i64 0, .int .i64 0, .int .i64 0], .int .i64 1]) (by simp [results, Try.results46, go_sem, k0, k1, k2, k3, k4, m0, m1, m2, m3, m4, m5, m6]) rfl ?_
      exact APost.mk (d, j0, 1) sa sc pa pc rfl KL.out KB.out HRES.out
    | true =>
      have HJB := Lib.hid hj; clear hj
      go_wp2_with fail
      refine (Rvalid_any _ _ _ _ d j _ HD.out).mono ?_
      rw [HJB.out]
      rintro er w2 ⟨rfl, hb1⟩
      clear x0 x1 x2 x3 x4
      clear y0 y1 y2 y3 y4 y5 y6
      have HX := Lib.hid (HX.out.call hb1)
      have HJ := Lib.hid (HJ.out.call hb1)
      have HR := Lib.hid (HR.out.call hb1)
      have HJ2 := Lib.hid (HJ2.out.call hb1)
      have HD := Lib.hid (HD.out.below hb1)
      have HB := Lib.hid (btrans HB.out HB.out.size hb1); clear hb1
      by_cases hi : l = []
      · have ti : (l == []) = true := by rw [hi]; rfl
        have HI := Lib.hid hi; clear hi
        have hres : resW d j l p = (d, j0, 1) := resE_arg (resArg_no (by rw [HI.out]; simp))
        have HRES := Lib.hid hres; clear hres
        have zj := HJ2.out.lt
        have x0 : w2.cell? ⟨w.heap.size, 0, none⟩ = some (.slice sa d.S.length sc) := HX.out.cell 0
        have x1 : w2.cell? ⟨w.heap.size, 1, none⟩ = some (.slice pa d.P.length pc) := HX.out.cell 1
        have x2 : w2.cell? ⟨w.heap.size, 2, none⟩ = some (.int .i64 d.fuse) := HX.out.cell 2
        have x3 : w2.cell? ⟨w.heap.size, 3, none⟩ = some (.int .i64 d.ops) := HX.out.cell 3
        have x4 : w2.cell? ⟨w.heap.size, 4, none⟩ = some (.bool d.dead) := HX.out.cell 4
        have r0 : w2.cell? ⟨(w.heap.size + 2), 0, none⟩ = some (.slice none 0 0) := HR.out.cell 0
        have r1 : w2.cell? ⟨(w.heap.size + 2), 1, none⟩ = some (.slice none 0 0) := HR.out.cell 1
        have r2 : w2.cell? ⟨(w.heap.size + 2), 2, none⟩ = some (.int .i64 0) := HR.out.cell 2
        have r3 : w2.cell? ⟨(w.heap.size + 2), 3, none⟩ = some (.int .i64 0) := HR.out.cell 3
        have r4 : w2.cell? ⟨(w.heap.size + 2), 4, none⟩ = some (.bool false) := HR.out.cell 4
        have q0 : w2.cell? ⟨(w.heap.size + 3), 0, none⟩ = some (.int .i64 0) := HJ2.out.cell 0
        have q1 : w2.cell? ⟨(w.heap.size + 3), 1, none⟩ = some (.int .i64 0) := HJ2.out.cell 1
        have q2 : w2.cell? ⟨(w.heap.size + 3), 2, none⟩ = some (.int .i64 0) := HJ2.out.cell 2
        have q3 : w2.cell? ⟨(w.heap.size + 3), 3, none⟩ = some (.int .i64 0) := HJ2.out.cell 3
        have q4 : w2.cell? ⟨(w.heap.size + 3), 4, none⟩ = some (.int .i64 0) := HJ2.out.cell 4
        have q5 : w2.cell? ⟨(w.heap.size + 3), 5, none⟩ = some (.int .i64 0) := HJ2.out.cell 5
        have q6 : w2.cell? ⟨(w.heap.size + 3), 6, none⟩ = some (.int .i64 0) := HJ2.out.cell 6
        have f0 := HR.out.free 0
        have f1 := HR.out.free 1
        have f2 := HR.out.free 2
        have f3 := HR.out.free 3
        have f4 := HR.out.free 4
        have p0 := HJ2.out.free 0
        have p1 := HJ2.out.free 1
        have p2 := HJ2.out.free 2
        have p3 := HJ2.out.free 3
        have p4 := HJ2.out.free 4
        have p5 := HJ2.out.free 5
        have p6 := HJ2.out.free 6
        have HJ3 := Lib.hid (HJ2.out.sets_ne (c := w.heap.size + 2) (by omega) (.slice sa d.S.length sc) (.slice pa d.P.length pc) (.int .i64 d.fuse) (.int .i64 d.ops) (.bool d.dead))
        have KR := Lib.hid ((HR.out.sets (.slice sa d.S.length sc) (.slice pa d.P.length pc) (.int .i64 d.fuse) (.int .i64 d.ops) (.bool d.dead)).sets7_ne (c := w.heap.size + 3) (by omega) (.int .i64 0) (.int .i64 0) (.int .i64 0) (.int .i64 0) (.int .i64 0) (.int .i64 0) (.int .i64 0))
        have KJ := Lib.hid (HJ3.out.sets7 (.int .i64 0) (.int .i64 0) (.int .i64 0) (.int .i64 0) (.int .i64 0) (.int .i64 0) (.int .i64 0))
        have KL := Lib.hid ((HD.out.sets_box HR.out (.slice sa d.S.length sc) (.slice pa d.P.length pc) (.int .i64 d.fuse) (.int .i64 d.ops) (.bool d.dead)).sets7i HJ3.out (.int .i64 0) (.int .i64 0) (.int .i64 0) (.int .i64 0) (.int .i64 0) (.int .i64 0) (.int .i64 0))
        have KB := Lib.hid (below_sets7 (below_sets HB.out (w.heap.size + 2) (by omega) (.slice sa d.S.length sc) (.slice pa d.P.length pc) (.int .i64 d.fuse) (.int .i64 d.ops) (.bool d.dead)) (w.heap.size + 3) (by omega) (.int .i64 0) (.int .i64 0) (.int .i64 0) (.int .i64 0) (.int .i64 0) (.int .i64 0) (.int .i64 0))
        go_wp2
        have k0 := KR.out.cell 0
        have k1 := KR.out.cell 1
        have k2 := KR.out.cell 2
        have k3 := KR.out.cell 3
        have k4 := KR.out.cell 4
        have m0 := KJ.out.cell 0
        have m1 := KJ.out.cell 1
        have m2 := KJ.out.cell 2
        have m3 := KJ.out.cell 3
        have m4 := KJ.out.cell 4
        have m5 := KJ.out.cell 5
        have m6 := KJ.out.cell 6
        simp only [List.getElem?_toArray, List.getElem?_cons_zero, List.getElem?_cons_succ] at k0 k1 k2 k3 k4 m0 m1 m2 m3 m4 m5 m6
        refine bodyPost_ret (v := .tuple #[.agg #[.slice sa d.S.length sc, .slice pa d.P.length pc, .int .i64 d.fuse, .int .i64 d.ops, .bool d.dead], .agg #[.int .i64 0, .int .i64 0, .int .i64 0, .int .i64 0, .int .i64 0, .int .i64 0, .int .i64 0], .int .i64 1]) (by simp [results, Try.results46, go_sem, k0, k1, k2, k3, k4, m0, m1, m2, m3, m4, m5, m6]) rfl ?_
        exact APost.mk (d, j0, 1) sa sc pa pc rfl KL.out KB.out HRES.out
      have ti : (l == []) = false := by rw [beq_eq_false_iff_ne]; exact hi
      have HI := Lib.hid hi; clear hi
      by_cases hp0 : p < 0
      · skip
        have hres : resW d j l p = (d, j0, 1) := resE_arg (resArg_no (by omega))
        have HRES := Lib.hid hres; clear hres
        have zj := HJ2.out.lt
        have x0 : w2.cell? ⟨w.heap.size, 0, none⟩ = some (.slice sa d.S.length sc) := HX.out.cell 0
        have x1 : w2.cell? ⟨w.heap.size, 1, none⟩ = some (.slice pa d.P.length pc) := HX.out.cell 1
        have x2 : w2.cell? ⟨w.heap.size, 2, none⟩ = some (.int .i64 d.fuse) := HX.out.cell 2
        have x3 : w2.cell? ⟨w.heap.size, 3, none⟩ = some (.int .i64 d.ops) := HX.out.cell 3
        have x4 : w2.cell? ⟨w.heap.size, 4, none⟩ = some (.bool d.dead) := HX.out.cell 4
        have r0 : w2.cell? ⟨(w.heap.size + 2), 0, none⟩ = some (.slice none 0 0) := HR.out.cell 0
        have r1 : w2.cell? ⟨(w.heap.size + 2), 1, none⟩ = some (.slice none 0 0) := HR.out.cell 1
        have r2 : w2.cell? ⟨(w.heap.size + 2), 2, none⟩ = some (.int .i64 0) := HR.out.cell 2
        have r3 : w2.cell? ⟨(w.heap.size + 2), 3, none⟩ = some (.int .i64 0) := HR.out.cell 3
        have r4 : w2.cell? ⟨(w.heap.size + 2), 4, none⟩ = some (.bool false) := HR.out.cell 4
        have q0 : w2.cell? ⟨(w.heap.size + 3), 0, none⟩ = some (.int .i64 0) := HJ2.out.cell 0
        have q1 : w2.cell? ⟨(w.heap.size + 3), 1, none⟩ = some (.int .i64 0) := HJ2.out.cell 1
        have q2 : w2.cell? ⟨(w.heap.size + 3), 2, none⟩ = some (.int .i64 0) := HJ2.out.cell 2
        have q3 : w2.cell? ⟨(w.heap.size + 3), 3, none⟩ = some (.int .i64 0) := HJ2.out.cell 3
        have q4 : w2.cell? ⟨(w.heap.size + 3), 4, none⟩ = some (.int .i64 0) := HJ2.out.cell 4
        have q5 : w2.cell? ⟨(w.heap.size + 3), 5, none⟩ = some (.int .i64 0) := HJ2.out.cell 5
        have q6 : w2.cell? ⟨(w.heap.size + 3), 6, none⟩ = some (.int .i64 0) := HJ2.out.cell 6
        have f0 := HR.out.free 0
        have f1 := HR.out.free 1
        have f2 := HR.out.free 2
        have f3 := HR.out.free 3
        have f4 := HR.out.free 4
        have p0 := HJ2.out.free 0
        have p1 := HJ2.out.free 1
        have p2 := HJ2.out.free 2
        have p3 := HJ2.out.free 3
        have p4 := HJ2.out.free 4
        have p5 := HJ2.out.free 5
        have p6 := HJ2.out.free 6
        have HJ3 := Lib.hid (HJ2.out.sets_ne (c := w.heap.size + 2) (by omega) (.slice sa d.S.length sc) (.slice pa d.P.length pc) (.int .i64 d.fuse) (.int .i64 d.ops) (.bool d.dead))
        have KR := Lib.hid ((HR.out.sets (.slice sa d.S.length sc) (.slice pa d.P.length pc) (.int .i64 d.fuse) (.int .i64 d.ops) (.bool d.dead)).sets7_ne (c := w.heap.size + 3) (by omega) (.int .i64 0) (.int .i64 0) (.int .i64 0) (.int .i64 0) (.int .i64 0) (.int .i64 0) (.int .i64 0))
        have KJ := Lib.hid (HJ3.out.sets7 (.int .i64 0) (.int .i64 0) (.int .i64 0) (.int .i64 0) (.int .i64 0) (.int .i64 0) (.int .i64 0))
        have KL := Lib.hid ((HD.out.sets_box HR.out (.slice sa d.S.length sc) (.slice pa d.P.length pc) (.int .i64 d.fuse) (.int .i64 d.ops) (.bool d.dead)).sets7i HJ3.out (.int .i64 0) (.int .i64 0) (.int .i64 0) (.int .i64 0) (.int .i64 0) (.int .i64 0) (.int .i64 0))
        have KB := Lib.hid (below_sets7 (below_sets HB.out (w.heap.size + 2) (by omega) (.slice sa d.S.length sc) (.slice pa d.P.length pc) (.int .i64 d.fuse) (.int .i64 d.ops) (.bool d.dead)) (w.heap.size + 3) (by omega) (.int .i64 0) (.int .i64 0) (.int .i64 0) (.int .i64 0) (.int .i64 0) (.int .i64 0) (.int .i64 0))
        go_wp2
        have k0 := KR.out.cell 0
        have k1 := KR.out.cell 1
        have k2 := KR.out.cell 2
        have k3 := KR.out.cell 3
        have k4 := KR.out.cell 4
        have m0 := KJ.out.cell 0
        have m1 := KJ.out.cell 1
        have m2 := KJ.out.cell 2
        have m3 := KJ.out.cell 3
        have m4 := KJ.out.cell 4
        have m5 := KJ.out.cell 5
        have m6 := KJ.out.cell 6
        simp only [List.getElem?_toArray, List.getElem?_cons_zero, List.getElem?_cons_succ] at k0 k1 k2 k3 k4 m0 m1 m2 m3 m4 m5 m6
        refine bodyPost_ret (v := .tuple #[.agg #[.slice sa d.S.length sc, .slice pa d.P.length pc, .int .i64 d.fuse, .int .i64 d.ops, .bool d.dead], .agg #[.int .i64 0, .int .i64 0, .int .i64 0, .int .i64 0, .int .i64 0, .int .i64 0, .int .i64 0], .int .i64 1]) (by simp [results, Try.results46, go_sem, k0, k1, k2, k3, k4, m0, m1, m2, m3, m4, m5, m6]) rfl ?_
        exact APost.mk (d, j0, 1) sa sc pa pc rfl KL.out KB.out HRES.out
      by_cases hp1 : 1099511627776 < p
      · skip
        have hres : resW d j l p = (d, j0, 1) := resE_arg (resArg_no (by omega))
        have HRES := Lib.hid hres; clear hres
        have zj := HJ2.out.lt
        have x0 : w2.cell? ⟨w.heap.size, 0, none⟩ = some (.slice sa d.S.length sc) := HX.out.cell 0
        have x1 : w2.cell? ⟨w.heap.size, 1, none⟩ = some (.slice pa d.P.length pc) := HX.out.cell 1
        have x2 : w2.cell? ⟨w.heap.size, 2, none⟩ = some (.int .i64 d.fuse) := HX.out.cell 2
        have x3 : w2.cell? ⟨w.heap.size, 3, none⟩ = some (.int .i64 d.ops) := HX.out.cell 3
        have x4 : w2.cell? ⟨w.heap.size, 4, none⟩ = some (.bool d.dead) := HX.out.cell 4
        have r0 : w2.cell? ⟨(w.heap.size + 2), 0, none⟩ = some (.slice none 0 0) := HR.out.cell 0
        have r1 : w2.cell? ⟨(w.heap.size + 2), 1, none⟩ = some (.slice none 0 0) := HR.out.cell 1
        have r2 : w2.cell? ⟨(w.heap.size + 2), 2, none⟩ = some (.int .i64 0) := HR.out.cell 2
        have r3 : w2.cell? ⟨(w.heap.size + 2), 3, none⟩ = some (.int .i64 0) := HR.out.cell 3
        have r4 : w2.cell? ⟨(w.heap.size + 2), 4, none⟩ = some (.bool false) := HR.out.cell 4
        have q0 : w2.cell? ⟨(w.heap.size + 3), 0, none⟩ = some (.int .i64 0) := HJ2.out.cell 0
        have q1 : w2.cell? ⟨(w.heap.size + 3), 1, none⟩ = some (.int .i64 0) := HJ2.out.cell 1
        have q2 : w2.cell? ⟨(w.heap.size + 3), 2, none⟩ = some (.int .i64 0) := HJ2.out.cell 2
        have q3 : w2.cell? ⟨(w.heap.size + 3), 3, none⟩ = some (.int .i64 0) := HJ2.out.cell 3
        have q4 : w2.cell? ⟨(w.heap.size + 3), 4, none⟩ = some (.int .i64 0) := HJ2.out.cell 4
        have q5 : w2.cell? ⟨(w.heap.size + 3), 5, none⟩ = some (.int .i64 0) := HJ2.out.cell 5
        have q6 : w2.cell? ⟨(w.heap.size + 3), 6, none⟩ = some (.int .i64 0) := HJ2.out.cell 6
        have f0 := HR.out.free 0
        have f1 := HR.out.free 1
        have f2 := HR.out.free 2
        have f3 := HR.out.free 3
        have f4 := HR.out.free 4
        have p0 := HJ2.out.free 0
        have p1 := HJ2.out.free 1
        have p2 := HJ2.out.free 2
        have p3 := HJ2.out.free 3
        have p4 := HJ2.out.free 4
        have p5 := HJ2.out.free 5
        have p6 := HJ2.out.free 6
        have HJ3 := Lib.hid (HJ2.out.sets_ne (c := w.heap.size + 2) (by omega) (.slice sa d.S.length sc) (.slice pa d.P.length pc) (.int .i64 d.fuse) (.int .i64 d.ops) (.bool d.dead))
        have KR := Lib.hid ((HR.out.sets (.slice sa d.S.length sc) (.slice pa d.P.length pc) (.int .i64 d.fuse) (.int .i64 d.ops) (.bool d.dead)).sets7_ne (c := w.heap.size + 3) (by omega) (.int .i64 0) (.int .i64 0) (.int .i64 0) (.int .i64 0) (.int .i64 0) (.int .i64 0) (.int .i64 0))
        have KJ := Lib.hid (HJ3.out.sets7 (.int .i64 0) (.int .i64 0) (.int .i64 0) (.int .i64 0) (.int .i64 0) (.int .i64 0) (.int .i64 0))
        have KL := Lib.hid ((HD.out.sets_box HR.out (.slice sa d.S.length sc) (.slice pa d.P.length pc) (.int .i64 d.fuse) (.int .i64 d.ops) (.bool d.dead)).sets7i HJ3.out (.int .i64 0) (.int .i64 0) (.int .i64 0) (.int .i64 0) (.int .i64 0) (.int .i64 0) (.int .i64 0))
        have KB := Lib.hid (below_sets7 (below_sets HB.out (w.heap.size + 2) (by omega) (.slice sa d.S.length sc) (.slice pa d.P.length pc) (.int .i64 d.fuse) (.int .i64 d.ops) (.bool d.dead)) (w.heap.size + 3) (by omega) (.int .i64 0) (.int .i64 0) (.int .i64 0) (.int .i64 0) (.int .i64 0) (.int .i64 0) (.int .i64 0))
        go_wp2
        have k0 := KR.out.cell 0
        have k1 := KR.out.cell 1
        have k2 := KR.out.cell 2
        have k3 := KR.out.cell 3
        have k4 := KR.out.cell 4
        have m0 := KJ.out.cell 0
        have m1 := KJ.out.cell 1
        have m2 := KJ.out.cell 2
        have m3 := KJ.out.cell 3
        have m4 := KJ.out.cell 4
        have m5 := KJ.out.cell 5
        have m6 := KJ.out.cell 6
        simp only [List.getElem?_toArray, List.getElem?_cons_zero, List.getElem?_cons_succ] at k0 k1 k2 k3 k4 m0 m1 m2 m3 m4 m5 m6
        refine bodyPost_ret (v := .tuple #[.agg #[.slice sa d.S.length sc, .slice pa d.P.length pc, .int .i64 d.fuse, .int .i64 d.ops, .bool d.dead], .agg #[.int .i64 0, .int .i64 0, .int .i64 0, .int .i64 0, .int .i64 0, .int .i64 0, .int .i64 0], .int .i64 1]) (by simp [results, Try.results46, go_sem, k0, k1, k2, k3, k4, m0, m1, m2, m3, m4, m5, m6]) rfl ?_
        exact APost.mk (d, j0, 1) sa sc pa pc rfl KL.out KB.out HRES.out
      have hra := (resArg_iff d j l p).2 ⟨HV.out, HJB.out, HI.out, by omega, by omega⟩
      have HRA := Lib.hid hra; clear hra
      have y0 : w2.cell? ⟨w.heap.size + 1, 0, none⟩ = some (.int .i64 j.x.g) := HJ.out.cell 0
      by_cases hlen : (16384 : Int) < (l.length : Int)
      · go_upto_region 4 with (fail)
        have hres : resW d j l p = (d, j0, 2) := resE_lim HRA.out (.inl (by omega))
        have HRES := Lib.hid hres; clear hres
        have zj := HJ2.out.lt
        have x0 : w2.cell? ⟨w.heap.size, 0, none⟩ = some (.slice sa d.S.length sc) := HX.out.cell 0
        have x1 : w2.cell? ⟨w.heap.size, 1, none⟩ = some (.slice pa d.P.length pc) := HX.out.cell 1
        have x2 : w2.cell? ⟨w.heap.size, 2, none⟩ = some (.int .i64 d.fuse) := HX.out.cell 2
        have x3 : w2.cell? ⟨w.heap.size, 3, none⟩ = some (.int .i64 d.ops) := HX.out.cell 3
        have x4 : w2.cell? ⟨w.heap.size, 4, none⟩ = some (.bool d.dead) := HX.out.cell 4
        have r0 : w2.cell? ⟨(w.heap.size + 2), 0, none⟩ = some (.slice none 0 0) := HR.out.cell 0
        have r1 : w2.cell? ⟨(w.heap.size + 2), 1, none⟩ = some (.slice none 0 0) := HR.out.cell 1
        have r2 : w2.cell? ⟨(w.heap.size + 2), 2, none⟩ = some (.int .i64 0) := HR.out.cell 2
        have r3 : w2.cell? ⟨(w.heap.size + 2), 3, none⟩ = some (.int .i64 0) := HR.out.cell 3
        have r4 : w2.cell? ⟨(w.heap.size + 2), 4, none⟩ = some (.bool false) := HR.out.cell 4
        have q0 : w2.cell? ⟨(w.heap.size + 3), 0, none⟩ = some (.int .i64 0) := HJ2.out.cell 0
        have q1 : w2.cell? ⟨(w.heap.size + 3), 1, none⟩ = some (.int .i64 0) := HJ2.out.cell 1
        have q2 : w2.cell? ⟨(w.heap.size + 3), 2, none⟩ = some (.int .i64 0) := HJ2.out.cell 2
        have q3 : w2.cell? ⟨(w.heap.size + 3), 3, none⟩ = some (.int .i64 0) := HJ2.out.cell 3
        have q4 : w2.cell? ⟨(w.heap.size + 3), 4, none⟩ = some (.int .i64 0) := HJ2.out.cell 4
        have q5 : w2.cell? ⟨(w.heap.size + 3), 5, none⟩ = some (.int .i64 0) := HJ2.out.cell 5
        have q6 : w2.cell? ⟨(w.heap.size + 3), 6, none⟩ = some (.int .i64 0) := HJ2.out.cell 6
        have f0 := HR.out.free 0
        have f1 := HR.out.free 1
        have f2 := HR.out.free 2
        have f3 := HR.out.free 3
        have f4 := HR.out.free 4
        have p0 := HJ2.out.free 0
        have p1 := HJ2.out.free 1
        have p2 := HJ2.out.free 2
        have p3 := HJ2.out.free 3
        have p4 := HJ2.out.free 4
        have p5 := HJ2.out.free 5
        have p6 := HJ2.out.free 6
        have HJ3 := Lib.hid (HJ2.out.sets_ne (c := w.heap.size + 2) (by omega) (.slice sa d.S.length sc) (.slice pa d.P.length pc) (.int .i64 d.fuse) (.int .i64 d.ops) (.bool d.dead))
        have KR := Lib.hid ((HR.out.sets (.slice sa d.S.length sc) (.slice pa d.P.length pc) (.int .i64 d.fuse) (.int .i64 d.ops) (.bool d.dead)).sets7_ne (c := w.heap.size + 3) (by omega) (.int .i64 0) (.int .i64 0) (.int .i64 0) (.int .i64 0) (.int .i64 0) (.int .i64 0) (.int .i64 0))
        have KJ := Lib.hid (HJ3.out.sets7 (.int .i64 0) (.int .i64 0) (.int .i64 0) (.int .i64 0) (.int .i64 0) (.int .i64 0) (.int .i64 0))
        have KL := Lib.hid ((HD.out.sets_box HR.out (.slice sa d.S.length sc) (.slice pa d.P.length pc) (.int .i64 d.fuse) (.int .i64 d.ops) (.bool d.dead)).sets7i HJ3.out (.int .i64 0) (.int .i64 0) (.int .i64 0) (.int .i64 0) (.int .i64 0) (.int .i64 0) (.int .i64 0))
        have KB := Lib.hid (below_sets7 (below_sets HB.out (w.heap.size + 2) (by omega) (.slice sa d.S.length sc) (.slice pa d.P.length pc) (.int .i64 d.fuse) (.int .i64 d.ops) (.bool d.dead)) (w.heap.size + 3) (by omega) (.int .i64 0) (.int .i64 0) (.int .i64 0) (.int .i64 0) (.int .i64 0) (.int .i64 0) (.int .i64 0))
        go_wp2
        have k0 := KR.out.cell 0
        have k1 := KR.out.cell 1
        have k2 := KR.out.cell 2
        have k3 := KR.out.cell 3
        have k4 := KR.out.cell 4
        have m0 := KJ.out.cell 0
        have m1 := KJ.out.cell 1
        have m2 := KJ.out.cell 2
        have m3 := KJ.out.cell 3
        have m4 := KJ.out.cell 4
        have m5 := KJ.out.cell 5
        have m6 := KJ.out.cell 6
        simp only [List.getElem?_toArray, List.getElem?_cons_zero, List.getElem?_cons_succ] at k0 k1 k2 k3 k4 m0 m1 m2 m3 m4 m5 m6
        refine bodyPost_ret (v := .tuple #[.agg #[.slice sa d.S.length sc, .slice pa d.P.length pc, .int .i64 d.fuse, .int .i64 d.ops, .bool d.dead], .agg #[.int .i64 0, .int .i64 0, .int .i64 0, .int .i64 0, .int .i64 0, .int .i64 0, .int .i64 0], .int .i64 2]) (by simp [results, Try.results46, go_sem, k0, k1, k2, k3, k4, m0, m1, m2, m3, m4, m5, m6]) rfl ?_
        exact APost.mk (d, j0, 2) sa sc pa pc rfl KL.out KB.out HRES.out
      by_cases hg : j.x.g = 1099511627776
      · have tm : (j.x.g == 1099511627776) = true := by rw [hg]; rfl
        have HGM := Lib.hid hg; clear hg
        go_upto_region 4 with (fail)
        have hres : resW d j l p = (d, j0, 2) := resE_lim HRA.out (.inr HGM.out)
        have HRES := Lib.hid hres; clear hres
        have zj := HJ2.out.lt
        have x0 : w2.cell? ⟨w.heap.size, 0, none⟩ = some (.slice sa d.S.length sc) := HX.out.cell 0
        have x1 : w2.cell? ⟨w.heap.size, 1, none⟩ = some (.slice pa d.P.length pc) := HX.out.cell 1
        have x2 : w2.cell? ⟨w.heap.size, 2, none⟩ = some (.int .i64 d.fuse) := HX.out.cell 2
        have x3 : w2.cell? ⟨w.heap.size, 3, none⟩ = some (.int .i64 d.ops) := HX.out.cell 3
        have x4 : w2.cell? ⟨w.heap.size, 4, none⟩ = some (.bool d.dead) := HX.out.cell 4
        have r0 : w2.cell? ⟨(w.heap.size + 2), 0, none⟩ = some (.slice none 0 0) := HR.out.cell 0
        have r1 : w2.cell? ⟨(w.heap.size + 2), 1, none⟩ = some (.slice none 0 0) := HR.out.cell 1
        have r2 : w2.cell? ⟨(w.heap.size + 2), 2, none⟩ = some (.int .i64 0) := HR.out.cell 2
        have r3 : w2.cell? ⟨(w.heap.size + 2), 3, none⟩ = some (.int .i64 0) := HR.out.cell 3
        have r4 : w2.cell? ⟨(w.heap.size + 2), 4, none⟩ = some (.bool false) := HR.out.cell 4
        have q0 : w2.cell? ⟨(w.heap.size + 3), 0, none⟩ = some (.int .i64 0) := HJ2.out.cell 0
        have q1 : w2.cell? ⟨(w.heap.size + 3), 1, none⟩ = some (.int .i64 0) := HJ2.out.cell 1
        have q2 : w2.cell? ⟨(w.heap.size + 3), 2, none⟩ = some (.int .i64 0) := HJ2.out.cell 2
        have q3 : w2.cell? ⟨(w.heap.size + 3), 3, none⟩ = some (.int .i64 0) := HJ2.out.cell 3
        have q4 : w2.cell? ⟨(w.heap.size + 3), 4, none⟩ = some (.int .i64 0) := HJ2.out.cell 4
        have q5 : w2.cell? ⟨(w.heap.size + 3), 5, none⟩ = some (.int .i64 0) := HJ2.out.cell 5
        have q6 : w2.cell? ⟨(w.heap.size + 3), 6, none⟩ = some (.int .i64 0) := HJ2.out.cell 6
        have f0 := HR.out.free 0
        have f1 := HR.out.free 1
        have f2 := HR.out.free 2
        have f3 := HR.out.free 3
        have f4 := HR.out.free 4
        have p0 := HJ2.out.free 0
        have p1 := HJ2.out.free 1
        have p2 := HJ2.out.free 2
        have p3 := HJ2.out.free 3
        have p4 := HJ2.out.free 4
        have p5 := HJ2.out.free 5
        have p6 := HJ2.out.free 6
        have HJ3 := Lib.hid (HJ2.out.sets_ne (c := w.heap.size + 2) (by omega) (.slice sa d.S.length sc) (.slice pa d.P.length pc) (.int .i64 d.fuse) (.int .i64 d.ops) (.bool d.dead))
        have KR := Lib.hid ((HR.out.sets (.slice sa d.S.length sc) (.slice pa d.P.length pc) (.int .i64 d.fuse) (.int .i64 d.ops) (.bool d.dead)).sets7_ne (c := w.heap.size + 3) (by omega) (.int .i64 0) (.int .i64 0) (.int .i64 0) (.int .i64 0) (.int .i64 0) (.int .i64 0) (.int .i64 0))
        have KJ := Lib.hid (HJ3.out.sets7 (.int .i64 0) (.int .i64 0) (.int .i64 0) (.int .i64 0) (.int .i64 0) (.int .i64 0) (.int .i64 0))
        have KL := Lib.hid ((HD.out.sets_box HR.out (.slice sa d.S.length sc) (.slice pa d.P.length pc) (.int .i64 d.fuse) (.int .i64 d.ops) (.bool d.dead)).sets7i HJ3.out (.int .i64 0) (.int .i64 0) (.int .i64 0) (.int .i64 0) (.int .i64 0) (.int .i64 0) (.int .i64 0))
        have KB := Lib.hid (below_sets7 (below_sets HB.out (w.heap.size + 2) (by omega) (.slice sa d.S.length sc) (.slice pa d.P.length pc) (.int .i64 d.fuse) (.int .i64 d.ops) (.bool d.dead)) (w.heap.size + 3) (by omega) (.int .i64 0) (.int .i64 0) (.int .i64 0) (.int .i64 0) (.int .i64 0) (.int .i64 0) (.int .i64 0))
        go_wp2
        have k0 := KR.out.cell 0
        have k1 := KR.out.cell 1
        have k2 := KR.out.cell 2
        have k3 := KR.out.cell 3
        have k4 := KR.out.cell 4
        have m0 := KJ.out.cell 0
        have m1 := KJ.out.cell 1
        have m2 := KJ.out.cell 2
        have m3 := KJ.out.cell 3
        have m4 := KJ.out.cell 4
        have m5 := KJ.out.cell 5
        have m6 := KJ.out.cell 6
        simp only [List.getElem?_toArray, List.getElem?_cons_zero, List.getElem?_cons_succ] at k0 k1 k2 k3 k4 m0 m1 m2 m3 m4 m5 m6
        refine bodyPost_ret (v := .tuple #[.agg #[.slice sa d.S.length sc, .slice pa d.P.length pc, .int .i64 d.fuse, .int .i64 d.ops, .bool d.dead], .agg #[.int .i64 0, .int .i64 0, .int .i64 0, .int .i64 0, .int .i64 0, .int .i64 0, .int .i64 0], .int .i64 2]) (by simp [results, Try.results46, go_sem, k0, k1, k2, k3, k4, m0, m1, m2, m3, m4, m5, m6]) rfl ?_
        exact APost.mk (d, j0, 2) sa sc pa pc rfl KL.out KB.out HRES.out
      have tm : (j.x.g == 1099511627776) = false := by rw [beq_eq_false_iff_ne]; exact hg
      have hlim : ¬ (16384 < l.length ∨ j.x.g = 1099511627776) := by omega
      have HLIM := Lib.hid hlim; clear hlim
      obtain ⟨hsx, jn0, jn1, jr0, jr1⟩ := jB_bounds HV.out HJB.out
      obtain ⟨xg1, xg2, _⟩ := spB_bounds hsx
      have xg3 : j.x.g + 1 ≤ 1099511627776 := by omega
      clear hsx hg
      obtain ⟨_, za2, _, za4, _⟩ := arN_bounds HV.out
      obtain ⟨⟨SL, es⟩, hsp⟩ : ∃ r, splitS (j.x.g + 1) l = r := ⟨_, rfl⟩
      have HSP := Lib.hid hsp; have hsl := split_len (j.x.g + 1) l
      rw [hsp] at hsl
      simp only at hsl
      clear hsp
      go_wp2_with fail
      refine (RSplit_any _ l _ hl).mono ?_
      rw [HSP.out]
      rintro er w4 ⟨v, rfl, hown, hb1⟩
      clear y0
      obtain ⟨pa2, pc2, rfl⟩ := own_slice hown
      have HSV := Lib.hid (StrS.of_own hown); clear hown
      have HX := Lib.hid (HX.out.call hb1)
      have HJ := Lib.hid (HJ.out.call hb1)
      have HR := Lib.hid (HR.out.call hb1)
      have HJ2 := Lib.hid (HJ2.out.call hb1)
      have HD := Lib.hid (HD.out.below hb1)
      have HB := Lib.hid (btrans HB.out HB.out.size hb1); clear hb1
      by_cases he : es = 0
      rotate_left
      · have te : (es != 0) = true := by rw [bne_iff_ne]; exact he
        have HE := Lib.hid he; clear he
        have hres : resW d j l p = (d, j0, es) := resE_split HRA.out HLIM.out HSP.out HE.out
        have HRES := Lib.hid hres; clear hres
        have zj := HJ2.out.lt
        have x0 : w4.cell? ⟨w.heap.size, 0, none⟩ = some (.slice sa d.S.length sc) := HX.out.cell 0
        have x1 : w4.cell? ⟨w.heap.size, 1, none⟩ = some (.slice pa d.P.length pc) := HX.out.cell 1
        have x2 : w4.cell? ⟨w.heap.size, 2, none⟩ = some (.int .i64 d.fuse) := HX.out.cell 2
        have x3 : w4.cell? ⟨w.heap.size, 3, none⟩ = some (.int .i64 d.ops) := HX.out.cell 3
        have x4 : w4.cell? ⟨w.heap.size, 4, none⟩ = some (.bool d.dead) := HX.out.cell 4
        have r0 : w4.cell? ⟨(w.heap.size + 2), 0, none⟩ = some (.slice none 0 0) := HR.out.cell 0
        have r1 : w4.cell? ⟨(w.heap.size + 2), 1, none⟩ = some (.slice none 0 0) := HR.out.cell 1
        have r2 : w4.cell? ⟨(w.heap.size + 2), 2, none⟩ = some (.int .i64 0) := HR.out.cell 2
        have r3 : w4.cell? ⟨(w.heap.size + 2), 3, none⟩ = some (.int .i64 0) := HR.out.cell 3
        have r4 : w4.cell? ⟨(w.heap.size + 2), 4, none⟩ = some (.bool false) := HR.out.cell 4
        have q0 : w4.cell? ⟨(w.heap.size + 3), 0, none⟩ = some (.int .i64 0) := HJ2.out.cell 0
        have q1 : w4.cell? ⟨(w.heap.size + 3), 1, none⟩ = some (.int .i64 0) := HJ2.out.cell 1
        have q2 : w4.cell? ⟨(w.heap.size + 3), 2, none⟩ = some (.int .i64 0) := HJ2.out.cell 2
        have q3 : w4.cell? ⟨(w.heap.size + 3), 3, none⟩ = some (.int .i64 0) := HJ2.out.cell 3
        have q4 : w4.cell? ⟨(w.heap.size + 3), 4, none⟩ = some (.int .i64 0) := HJ2.out.cell 4
        have q5 : w4.cell? ⟨(w.heap.size + 3), 5, none⟩ = some (.int .i64 0) := HJ2.out.cell 5
        have q6 : w4.cell? ⟨(w.heap.size + 3), 6, none⟩ = some (.int .i64 0) := HJ2.out.cell 6
        have f0 := HR.out.free 0
        have f1 := HR.out.free 1
        have f2 := HR.out.free 2
        have f3 := HR.out.free 3
        have f4 := HR.out.free 4
        have p0 := HJ2.out.free 0
        have p1 := HJ2.out.free 1
        have p2 := HJ2.out.free 2
        have p3 := HJ2.out.free 3
        have p4 := HJ2.out.free 4
        have p5 := HJ2.out.free 5
        have p6 := HJ2.out.free 6
        have HJ3 := Lib.hid (HJ2.out.sets_ne (c := w.heap.size + 2) (by omega) (.slice sa d.S.length sc) (.slice pa d.P.length pc) (.int .i64 d.fuse) (.int .i64 d.ops) (.bool d.dead))
        have KR := Lib.hid ((HR.out.sets (.slice sa d.S.length sc) (.slice pa d.P.length pc) (.int .i64 d.fuse) (.int .i64 d.ops) (.bool d.dead)).sets7_ne (c := w.heap.size + 3) (by omega) (.int .i64 0) (.int .i64 0) (.int .i64 0) (.int .i64 0) (.int .i64 0) (.int .i64 0) (.int .i64 0))
        have KJ := Lib.hid (HJ3.out.sets7 (.int .i64 0) (.int .i64 0) (.int .i64 0) (.int .i64 0) (.int .i64 0) (.int .i64 0) (.int .i64 0))
        have KL := Lib.hid ((HD.out.sets_box HR.out (.slice sa d.S.length sc) (.slice pa d.P.length pc) (.int .i64 d.fuse) (.int .i64 d.ops) (.bool d.dead)).sets7i HJ3.out (.int .i64 0) (.int .i64 0) (.int .i64 0) (.int .i64 0) (.int .i64 0) (.int .i64 0) (.int .i64 0))
        have KB := Lib.hid (below_sets7 (below_sets HB.out (w.heap.size + 2) (by omega) (.slice sa d.S.length sc) (.slice pa d.P.length pc) (.int .i64 d.fuse) (.int .i64 d.ops) (.bool d.dead)) (w.heap.size + 3) (by omega) (.int .i64 0) (.int .i64 0) (.int .i64 0) (.int .i64 0) (.int .i64 0) (.int .i64 0) (.int .i64 0))
        go_wp2
        have k0 := KR.out.cell 0
        have k1 := KR.out.cell 1
        have k2 := KR.out.cell 2
        have k3 := KR.out.cell 3
        have k4 := KR.out.cell 4
        have m0 := KJ.out.cell 0
        have m1 := KJ.out.cell 1
        have m2 := KJ.out.cell 2
        have m3 := KJ.out.cell 3
        have m4 := KJ.out.cell 4
        have m5 := KJ.out.cell 5
        have m6 := KJ.out.cell 6
        simp only [List.getElem?_toArray, List.getElem?_cons_zero, List.getElem?_cons_succ] at k0 k1 k2 k3 k4 m0 m1 m2 m3 m4 m5 m6
        refine bodyPost_ret (v := .tuple #[.agg #[.slice sa d.S.length sc, .slice pa d.P.length pc, .int .i64 d.fuse, .int .i64 d.ops, .bool d.dead], .agg #[.int .i64 0, .int .i64 0, .int .i64 0, .int .i64 0, .int .i64 0, .int .i64 0, .int .i64 0], .int .i64 es]) (by simp [results, Try.results46, go_sem, k0, k1, k2, k3, k4, m0, m1, m2, m3, m4, m5, m6]) rfl ?_
        exact APost.mk (d, j0, es) sa sc pa pc rfl KL.out KB.out HRES.out
      subst he
      have x0 : w4.cell? ⟨w.heap.size, 0, none⟩ = some (.slice sa d.S.length sc) := HX.out.cell 0
      have x1 : w4.cell? ⟨w.heap.size, 1, none⟩ = some (.slice pa d.P.length pc) := HX.out.cell 1
      have x2 : w4.cell? ⟨w.heap.size, 2, none⟩ = some (.int .i64 d.fuse) := HX.out.cell 2
      have x3 : w4.cell? ⟨w.heap.size, 3, none⟩ = some (.int .i64 d.ops) := HX.out.cell 3
      have x4 : w4.cell? ⟨w.heap.size, 4, none⟩ = some (.bool d.dead) := HX.out.cell 4
      go_wp2_with fail
      refine (RAreas_any _ _ _ _ d _ HD.out).mono ?_
      rw [areas_ok HV.out]
      rintro er w5 ⟨rfl, hb1⟩
      clear x0 x1 x2 x3 x4
      have HSV := Lib.hid (HSV.out.below hb1)
      have HX := Lib.hid (HX.out.call hb1)
      have HJ := Lib.hid (HJ.out.call hb1)
      have HR := Lib.hid (HR.out.call hb1)
      have HJ2 := Lib.hid (HJ2.out.call hb1)
      have HD := Lib.hid (HD.out.below hb1)
      have HB := Lib.hid (btrans HB.out HB.out.size hb1); clear hb1
      by_cases hf : (arN d : Int) < (SL.length : Int)
      · skip
        have hres : resW d j l p = (d, j0, 17) := resE_full HRA.out HLIM.out HSP.out (by omega)
        have HRES := Lib.hid hres; clear hres
        have zj := HJ2.out.lt
        have x0 : w5.cell? ⟨w.heap.size, 0, none⟩ = some (.slice sa d.S.length sc) := HX.out.cell 0
        have x1 : w5.cell? ⟨w.heap.size, 1, none⟩ = some (.slice pa d.P.length pc) := HX.out.cell 1
        have x2 : w5.cell? ⟨w.heap.size, 2, none⟩ = some (.int .i64 d.fuse) := HX.out.cell 2
        have x3 : w5.cell? ⟨w.heap.size, 3, none⟩ = some (.int .i64 d.ops) := HX.out.cell 3
        have x4 : w5.cell? ⟨w.heap.size, 4, none⟩ = some (.bool d.dead) := HX.out.cell 4
        have r0 : w5.cell? ⟨(w.heap.size + 2), 0, none⟩ = some (.slice none 0 0) := HR.out.cell 0
        have r1 : w5.cell? ⟨(w.heap.size + 2), 1, none⟩ = some (.slice none 0 0) := HR.out.cell 1
        have r2 : w5.cell? ⟨(w.heap.size + 2), 2, none⟩ = some (.int .i64 0) := HR.out.cell 2
        have r3 : w5.cell? ⟨(w.heap.size + 2), 3, none⟩ = some (.int .i64 0) := HR.out.cell 3
        have r4 : w5.cell? ⟨(w.heap.size + 2), 4, none⟩ = some (.bool false) := HR.out.cell 4
        have q0 : w5.cell? ⟨(w.heap.size + 3), 0, none⟩ = some (.int .i64 0) := HJ2.out.cell 0
        have q1 : w5.cell? ⟨(w.heap.size + 3), 1, none⟩ = some (.int .i64 0) := HJ2.out.cell 1
        have q2 : w5.cell? ⟨(w.heap.size + 3), 2, none⟩ = some (.int .i64 0) := HJ2.out.cell 2
        have q3 : w5.cell? ⟨(w.heap.size + 3), 3, none⟩ = some (.int .i64 0) := HJ2.out.cell 3
        have q4 : w5.cell? ⟨(w.heap.size + 3), 4, none⟩ = some (.int .i64 0) := HJ2.out.cell 4
        have q5 : w5.cell? ⟨(w.heap.size + 3), 5, none⟩ = some (.int .i64 0) := HJ2.out.cell 5
        have q6 : w5.cell? ⟨(w.heap.size + 3), 6, none⟩ = some (.int .i64 0) := HJ2.out.cell 6
        have f0 := HR.out.free 0
        have f1 := HR.out.free 1
        have f2 := HR.out.free 2
        have f3 := HR.out.free 3
        have f4 := HR.out.free 4
        have p0 := HJ2.out.free 0
        have p1 := HJ2.out.free 1
        have p2 := HJ2.out.free 2
        have p3 := HJ2.out.free 3
        have p4 := HJ2.out.free 4
        have p5 := HJ2.out.free 5
        have p6 := HJ2.out.free 6
        have HJ3 := Lib.hid (HJ2.out.sets_ne (c := w.heap.size + 2) (by omega) (.slice sa d.S.length sc) (.slice pa d.P.length pc) (.int .i64 d.fuse) (.int .i64 d.ops) (.bool d.dead))
        have KR := Lib.hid ((HR.out.sets (.slice sa d.S.length sc) (.slice pa d.P.length pc) (.int .i64 d.fuse) (.int .i64 d.ops) (.bool d.dead)).sets7_ne (c := w.heap.size + 3) (by omega) (.int .i64 0) (.int .i64 0) (.int .i64 0) (.int .i64 0) (.int .i64 0) (.int .i64 0) (.int .i64 0))
        have KJ := Lib.hid (HJ3.out.sets7 (.int .i64 0) (.int .i64 0) (.int .i64 0) (.int .i64 0) (.int .i64 0) (.int .i64 0) (.int .i64 0))
        have KL := Lib.hid ((HD.out.sets_box HR.out (.slice sa d.S.length sc) (.slice pa d.P.length pc) (.int .i64 d.fuse) (.int .i64 d.ops) (.bool d.dead)).sets7i HJ3.out (.int .i64 0) (.int .i64 0) (.int .i64 0) (.int .i64 0) (.int .i64 0) (.int .i64 0) (.int .i64 0))
        have KB := Lib.hid (below_sets7 (below_sets HB.out (w.heap.size + 2) (by omega) (.slice sa d.S.length sc) (.slice pa d.P.length pc) (.int .i64 d.fuse) (.int .i64 d.ops) (.bool d.dead)) (w.heap.size + 3) (by omega) (.int .i64 0) (.int .i64 0) (.int .i64 0) (.int .i64 0) (.int .i64 0) (.int .i64 0) (.int .i64 0))
        go_wp2
        have k0 := KR.out.cell 0
        have k1 := KR.out.cell 1
        have k2 := KR.out.cell 2
        have k3 := KR.out.cell 3
        have k4 := KR.out.cell 4
        have m0 := KJ.out.cell 0
        have m1 := KJ.out.cell 1
        have m2 := KJ.out.cell 2
        have m3 := KJ.out.cell 3
        have m4 := KJ.out.cell 4
        have m5 := KJ.out.cell 5
        have m6 := KJ.out.cell 6
        simp only [List.getElem?_toArray, List.getElem?_cons_zero, List.getElem?_cons_succ] at k0 k1 k2 k3 k4 m0 m1 m2 m3 m4 m5 m6
        refine bodyPost_ret (v := .tuple #[.agg #[.slice sa d.S.length sc, .slice pa d.P.length pc, .int .i64 d.fuse, .int .i64 d.ops, .bool d.dead], .agg #[.int .i64 0, .int .i64 0, .int .i64 0, .int .i64 0, .int .i64 0, .int .i64 0, .int .i64 0], .int .i64 17]) (by simp [results, Try.results46, go_sem, k0, k1, k2, k3, k4, m0, m1, m2, m3, m4, m5, m6]) rfl ?_
        exact APost.mk (d, j0, 17) sa sc pa pc rfl KL.out KB.out HRES.out
      obtain ⟨t, ht⟩ : ∃ t : Bool, (j.x.a == 1) = t := ⟨_, rfl⟩
      have y2 : w5.cell? ⟨w.heap.size + 1, 2, none⟩ = some (.int .i64 j.x.a) := HJ.out.cell 2
      go_upto_if 85 with (fail)
      clear y2
      have HTT := Lib.hid ht; clear ht
      go_cut [17] from 21 to 120 (fun s17 W => s17 = .int .i64 (otherA j.x) ∧ Below w5.heap.size w5 W)
      case first =>
        cases t with
        | false =>
          have hoa : otherA j.x = 1 := by have h := HTT.out; unfold otherA; rw [if_neg (by simpa using h)]
          have HOA := Lib.hid hoa; clear hoa
          go_wp2_with fail
          go_meet
          exact ⟨by rw [HOA.out], Below.refl _ _⟩
        | true =>
          have hoa : otherA j.x = 2 := by have h := HTT.out; unfold otherA; rw [if_pos (by simpa using h)]
          have HOA := Lib.hid hoa; clear hoa
          go_wp2_with fail
          go_meet
          exact ⟨by rw [HOA.out], Below.refl _ _⟩
      case rest =>
        obtain ⟨rfl, hbc⟩ := hcut
        have HSV := Lib.hid (HSV.out.below hbc)
        have HX := Lib.hid (HX.out.call hbc)
        have HJ := Lib.hid (HJ.out.call hbc)
        have HR := Lib.hid (HR.out.call hbc)
        have HJ2 := Lib.hid (HJ2.out.call hbc)
        have HD := Lib.hid (HD.out.below hbc)
        have HB := Lib.hid (btrans HB.out HB.out.size hbc); clear hbc
        have hoa : 1 ≤ otherA j.x ∧ otherA j.x ≤ 2 := by unfold otherA; split <;> decide
        obtain ⟨oo1, oo2⟩ := hoa
        have hst : (if otherA j.x = 2 then 2 + (arN d : Int) else 2) = 2 + (otherA j.x - 1) * (arN d : Int) := by
          rcases (show otherA j.x = 1 ∨ otherA j.x = 2 by omega) with h | h <;> rw [h]
          · rw [if_neg (by decide)]; omega
          · rw [if_pos rfl]; omega
        have hsb : 0 ≤ 2 + (otherA j.x - 1) * (arN d : Int) ∧ 2 + (otherA j.x - 1) * (arN d : Int) ≤ 100000 := by
          rw [← hst]; split <;> omega
        have HST := Lib.hid hst; have HSB := Lib.hid hsb; clear hst hsb
        obtain ⟨⟨d1, e1⟩, hr⟩ : ∃ r, wrF SL d (2 + (otherA j.x - 1) * (arN d : Int)) = r := ⟨_, rfl⟩
        have hlen := (wrF_len SL d (2 + (otherA j.x - 1) * (arN d : Int))).2
        rw [hr] at hlen
        simp only at hlen
        have hp1 : d1.P.length ≤ 8999999999999 := by omega
        have HRR := Lib.hid hr; clear hr hlen
        have x0 : wc.cell? ⟨w.heap.size, 0, none⟩ = some (.slice sa d.S.length sc) := HX.out.cell 0
        have x1 : wc.cell? ⟨w.heap.size, 1, none⟩ = some (.slice pa d.P.length pc) := HX.out.cell 1
        have x2 : wc.cell? ⟨w.heap.size, 2, none⟩ = some (.int .i64 d.fuse) := HX.out.cell 2
        have x3 : wc.cell? ⟨w.heap.size, 3, none⟩ = some (.int .i64 d.ops) := HX.out.cell 3
        have x4 : wc.cell? ⟨w.heap.size, 4, none⟩ = some (.bool d.dead) := HX.out.cell 4
        go_upto_region 15 with (fail)
        have hs5 : wc.drew.cell? ⟨w.heap.size, 0, none⟩ = some (.slice sa d.S.length sc) ∧ wc.drew.cell? ⟨w.heap.size, 1, none⟩ = some (.slice pa d.P.length pc) ∧ wc.drew.cell? ⟨w.heap.size, 2, none⟩ = some (.int .i64 d.fuse) ∧ wc.drew.cell? ⟨w.heap.size, 3, none⟩ = some (.int .i64 d.ops) ∧ wc.drew.cell? ⟨w.heap.size, 4, none⟩ = some (.bool d.dead) := ⟨x0, x1, x2, x3, x4⟩
        have HS5 := Lib.hid hs5; clear hs5 x0 x1 x2 x3 x4
        go_cut [13, 18] from 21 to 120 (fun s13 s18 W => ∃ bb a5 c5 a6 c6, s13 = .int .i64 e1 ∧ s18 = .pointer (some ⟨bb, 0, none⟩) ∧ Bx bb #[.slice a5 d1.S.length c5, .slice a6 d1.P.length c6, .int .i64 d1.fuse, .int .i64 d1.ops, .bool d1.dead] 38 W ∧ Lists W a5 c5 a6 c6 d1 ∧ Below wc.heap.size wc W ∧ wc.heap.size ≤ bb)
        case first =>
          refine wp_region_held_drew (S := (fun w' => w'.cell? ⟨w.heap.size, 0, none⟩ = some (.slice sa d.S.length sc) ∧ w'.cell? ⟨w.heap.size, 1, none⟩ = some (.slice pa d.P.length pc) ∧ w'.cell? ⟨w.heap.size, 2, none⟩ = some (.int .i64 d.fuse) ∧ w'.cell? ⟨w.heap.size, 3, none⟩ = some (.int .i64 d.ops) ∧ w'.cell? ⟨w.heap.size, 4, none⟩ = some (.bool d.dead))) (by kernel_rfl) ?_ (fun hHeld => ?_)
          · exact HS5.out
          refine takeH (i := 0) (v := ?vv1) 87 rfl rfl (by kernel_rfl) (by kernel_rfl) (by kernel_rfl) (fun _ _ _ h => h) (Or.inl ⟨by kernel_rfl, ?yy1⟩) (by assumption) ?_
          case yy1 => intro w hSw; (try dsimp only at hSw); go_simp; (try with_reducible rfl)
          simp only [List.setIfInBounds_toArray, List.set_cons_zero, List.set_cons_succ]
          refine takeH (i := 1) (v := ?vv2) 88 rfl rfl (by kernel_rfl) (by kernel_rfl) (by kernel_rfl) (fun _ _ _ h => h) (Or.inl ⟨by kernel_rfl, ?yy2⟩) (by assumption) ?_
          case yy2 => intro w hSw; (try dsimp only at hSw); go_simp; (try with_reducible rfl)
          simp only [List.setIfInBounds_toArray, List.set_cons_zero, List.set_cons_succ]
          refine takeH (i := 2) (v := ?vv3) 89 rfl rfl (by kernel_rfl) (by kernel_rfl) (by kernel_rfl) (fun _ _ _ h => h) (Or.inl ⟨by kernel_rfl, ?yy3⟩) (by assumption) ?_
          case yy3 => intro w hSw; (try dsimp only at hSw); go_simp; (try with_reducible rfl)
          simp only [List.setIfInBounds_toArray, List.set_cons_zero, List.set_cons_succ]
          refine takeH (i := 4) (v := ?vv4) 91 rfl rfl (by kernel_rfl) (by kernel_rfl) (by kernel_rfl) (fun _ _ _ h => h) (Or.inl ⟨by kernel_rfl, ?yy4⟩) (by assumption) ?_
          case yy4 => intro w hSw; (try dsimp only at hSw); go_simp; (try with_reducible rfl)
          simp only [List.setIfInBounds_toArray, List.set_cons_zero, List.set_cons_succ]
          refine wpAnyH_ready (rs := [3, 9]) (by kernel_rfl) (by simp) ?_
          refine (AllReadyH.cons rfl (fun K hK => ?_) (AllReadyH.cons rfl (fun K hK => ?_) AllReadyH.nil))
          · skip
            go_simp
            (refine (Rstart_any _ _ _ _ d (otherA j.x) _ (HD.out.below (Below.refl wc.heap.size wc).drew) HV.out).mono ?_; rw [HST.out]; rintro er w6 ⟨rfl, hb6⟩)
            (try go_wp2_with fail)
            refine hK.out _ _ ?_ (fun hHeld => ?_)
            · exact wcells5_below hHeld hb6
            clear hK K
            (try simp only [Act.put, List.setIfInBounds_toArray, List.set_cons_zero, List.set_cons_succ])
            have hc6 := btrans (Below.refl wc.heap.size wc).drew (Nat.le_refl _) hb6
            refine wpAnyH_ready (rs := [5, 9]) (by kernel_rfl) (by simp) ?_
            refine (AllReadyH.cons rfl (fun K hK => ?_) (AllReadyH.cons rfl (fun K hK => ?_) AllReadyH.nil))
            · skip
              go_simp
              (refine (Rwrite_any _ _ _ _ d (2 + (otherA j.x - 1) * (arN d : Int)) SL pa2 pc2 (d1, e1) _ (HD.out.below hc6) (HSV.out.below hc6) HRR.out HSB.out.1 HSB.out.2 hp (by omega)).mono ?_; rintro er w7 ⟨a5, c5, a6, c6, rfl, hL5, hb5⟩)
              (try go_wp2_with fail)
              refine hK.out _ _ ?_ (fun hHeld => ?_)
              · exact wcells5_below hHeld hb5
              clear hK K
              (try simp only [Act.put, List.setIfInBounds_toArray, List.set_cons_zero, List.set_cons_succ])
              refine takeH (i := 6) (v := ?vv5) 86 rfl rfl (by kernel_rfl) (by kernel_rfl) (by kernel_rfl) (fun _ _ _ h => h) (Or.inl ⟨by kernel_rfl, ?yy5⟩) (by assumption) ?_
              case yy5 => intro w hSw; (try dsimp only at hSw); go_simp; (try with_reducible rfl)
              simp only [List.setIfInBounds_toArray, List.set_cons_zero, List.set_cons_succ]
              refine takeH (i := 7) (v := ?vv6) 93 rfl rfl (by kernel_rfl) (by kernel_rfl) (by kernel_rfl) (fun _ _ _ h => h) (Or.inl ⟨by kernel_rfl, ?yy6⟩) (by assumption) ?_
              case yy6 => intro w hSw; (try dsimp only at hSw); go_simp; (try with_reducible rfl)
              simp only [List.setIfInBounds_toArray, List.set_cons_zero, List.set_cons_succ]
              refine takeH (i := 8) (v := ?vv7) 94 rfl rfl (by kernel_rfl) (by kernel_rfl) (by kernel_rfl) (fun _ _ _ h => h) (Or.inl ⟨by kernel_rfl, ?yy7⟩) (by assumption) ?_
              case yy7 => intro w hSw; (try dsimp only at hSw); go_simp; (try with_reducible rfl)
              simp only [List.setIfInBounds_toArray, List.set_cons_zero, List.set_cons_succ]
              have hc7 := btrans hc6 hc6.size hb5
              refine wpAnyH_ready (rs := [9]) (by kernel_rfl) (by simp) ?_
              refine (AllReadyH.cons rfl (fun K hK => ?_) AllReadyH.nil)
              go_simp
              skip
              (try go_wp2_with fail)
              refine hK.out _ _ ?_ (fun hHeld => ?_)
              · exact wcells5_below hHeld ((Below.refl _ _).alloc (Nat.le_refl _) _)
              clear hK K
              (try simp only [Act.put, List.setIfInBounds_toArray, List.set_cons_zero, List.set_cons_succ])
              refine wpAnyH_ready (rs := [10]) (by kernel_rfl) (by simp) ?_
              refine (AllReadyH.cons rfl (fun K hK => ?_) AllReadyH.nil)
              go_simp
              skip
              (try go_wp2_with fail)
              refine hK.out _ _ ?_ (fun hHeld => ?_)
              · exact wcells5_below (by assumption) ((Below.refl w7.heap.size w7).alloc (Nat.le_refl _) _)
              clear hK K
              (try simp only [Act.put, List.setIfInBounds_toArray, List.set_cons_zero, List.set_cons_succ])
              refine takeH (i := 11) (v := ?vv8) 13 rfl rfl (by kernel_rfl) (by kernel_rfl) (by kernel_rfl) (fun _ _ _ h => h) (Or.inl ⟨by kernel_rfl, ?yy8⟩) (by assumption) ?_
              case yy8 => intro w hSw; (try dsimp only at hSw); go_simp; (try with_reducible rfl)
              simp only [List.setIfInBounds_toArray, List.set_cons_zero, List.set_cons_succ]
              refine wpAnyH_done (by kernel_rfl) ?_ _
              go_wp2_with fail
              go_meet
              exact ⟨_, _, _, _, _, rfl, rfl, Bx.new w7 _ _, hL5.below ((Below.refl w7.heap.size w7).alloc (Nat.le_refl _) _), hc7.alloc hc7.size _, hc7.size⟩
            · skip
              go_simp
              skip
              (try go_wp2_with fail)
              refine hK.out _ _ ?_ (fun hHeld => ?_)
              · exact wcells5_below hHeld ((Below.refl _ _).alloc (Nat.le_refl _) _)
              clear hK K
              (try simp only [Act.put, List.setIfInBounds_toArray, List.set_cons_zero, List.set_cons_succ])
              refine wpAnyH_ready (rs := [5]) (by kernel_rfl) (by simp) ?_
              refine (AllReadyH.cons rfl (fun K hK => ?_) AllReadyH.nil)
              have HBA := Lib.hid (hc6.alloc hc6.size (.cells #[.slice none 0 0, .slice none 0 0, .int .i64 0, .int .i64 0, .bool false] 38))
              go_simp
              (refine (Rwrite_any _ _ _ _ d (2 + (otherA j.x - 1) * (arN d : Int)) SL pa2 pc2 (d1, e1) _ (HD.out.below HBA.out) (HSV.out.below HBA.out) HRR.out HSB.out.1 HSB.out.2 hp (by omega)).mono ?_; rintro er w7 ⟨a5, c5, a6, c6, rfl, hL5, hb5⟩)
              (try go_wp2_with fail)
              refine hK.out _ _ ?_ (fun hHeld => ?_)
              · exact wcells5_below hHeld hb5
              clear hK K
              (try simp only [Act.put, List.setIfInBounds_toArray, List.set_cons_zero, List.set_cons_succ])
              have HB5 := Lib.hid (btrans HBA.out HBA.out.size hb5)
              have hBA : Bx w6.heap.size #[.slice none 0 0, .slice none 0 0, .int .i64 0, .int .i64 0, .bool false] 38 w7 := (Bx.new w6 _ _).call hb5
              refine takeH (i := 6) (v := ?vv9) 86 rfl rfl (by kernel_rfl) (by kernel_rfl) (by kernel_rfl) (fun _ _ _ h => h) (Or.inl ⟨by kernel_rfl, ?yy9⟩) (by assumption) ?_
              case yy9 => intro w hSw; (try dsimp only at hSw); go_simp; (try with_reducible rfl)
              simp only [List.setIfInBounds_toArray, List.set_cons_zero, List.set_cons_succ]
              refine takeH (i := 7) (v := ?vv10) 93 rfl rfl (by kernel_rfl) (by kernel_rfl) (by kernel_rfl) (fun _ _ _ h => h) (Or.inl ⟨by kernel_rfl, ?yy10⟩) (by assumption) ?_
              case yy10 => intro w hSw; (try dsimp only at hSw); go_simp; (try with_reducible rfl)
              simp only [List.setIfInBounds_toArray, List.set_cons_zero, List.set_cons_succ]
              refine takeH (i := 8) (v := ?vv11) 94 rfl rfl (by kernel_rfl) (by kernel_rfl) (by kernel_rfl) (fun _ _ _ h => h) (Or.inl ⟨by kernel_rfl, ?yy11⟩) (by assumption) ?_
              case yy11 => intro w hSw; (try dsimp only at hSw); go_simp; (try with_reducible rfl)
              simp only [List.setIfInBounds_toArray, List.set_cons_zero, List.set_cons_succ]
              have r0 : w7.cell? ⟨w6.heap.size, 0, none⟩ = some (.slice none 0 0) := hBA.cell 0
              have r1 : w7.cell? ⟨w6.heap.size, 1, none⟩ = some (.slice none 0 0) := hBA.cell 1
              have r2 : w7.cell? ⟨w6.heap.size, 2, none⟩ = some (.int .i64 0) := hBA.cell 2
              have r3 : w7.cell? ⟨w6.heap.size, 3, none⟩ = some (.int .i64 0) := hBA.cell 3
              have r4 : w7.cell? ⟨w6.heap.size, 4, none⟩ = some (.bool false) := hBA.cell 4
              have g0 := hBA.free 0
              have g1 := hBA.free 1
              have g2 := hBA.free 2
              have g3 := hBA.free 3
              have g4 := hBA.free 4
              have zx := HX.out.lt
              have zc := hc6.size
              refine wpAnyH_ready (rs := [10]) (by kernel_rfl) (by simp) ?_
              refine (AllReadyH.cons rfl (fun K hK => ?_) AllReadyH.nil)
              go_simp
              skip
              (try go_wp2_with fail)
              refine hK.out _ _ ?_ (fun hHeld => ?_)
              · exact vcells5_sets (by assumption) (w6.heap.size) (by omega) _ _ _ _ _
              clear hK K
              (try simp only [Act.put, List.setIfInBounds_toArray, List.set_cons_zero, List.set_cons_succ])
              refine takeH (i := 11) (v := ?vv12) 13 rfl rfl (by kernel_rfl) (by kernel_rfl) (by kernel_rfl) (fun _ _ _ h => h) (Or.inl ⟨by kernel_rfl, ?yy12⟩) (by assumption) ?_
              case yy12 => intro w hSw; (try dsimp only at hSw); go_simp; (try with_reducible rfl)
              simp only [List.setIfInBounds_toArray, List.set_cons_zero, List.set_cons_succ]
              refine wpAnyH_done (by kernel_rfl) ?_ _
              go_wp2_with fail
              go_meet
              exact ⟨_, _, _, _, _, rfl, rfl, hBA.sets _ _ _ _ _, hL5.sets_box hBA _ _ _ _ _, below_sets HB5.out w6.heap.size hc6.size _ _ _ _ _, hc6.size⟩
          · skip
            go_simp
            skip
            (try go_wp2_with fail)
            refine hK.out _ _ ?_ (fun hHeld => ?_)
            · exact wcells5_below hHeld ((Below.refl _ _).alloc (Nat.le_refl _) _)
            clear hK K
            (try simp only [Act.put, List.setIfInBounds_toArray, List.set_cons_zero, List.set_cons_succ])
            refine wpAnyH_ready (rs := [3]) (by kernel_rfl) (by simp) ?_
            refine (AllReadyH.cons rfl (fun K hK => ?_) AllReadyH.nil)
            have HBA := Lib.hid ((Below.refl wc.heap.size wc).drew.alloc (Nat.le_refl _) (.cells #[.slice none 0 0, .slice none 0 0, .int .i64 0, .int .i64 0, .bool false] 38))
            go_simp
            (refine (Rstart_any _ _ _ _ d (otherA j.x) _ (HD.out.below HBA.out) HV.out).mono ?_; rw [HST.out]; rintro er w6 ⟨rfl, hb6⟩)
            (try go_wp2_with fail)
            refine hK.out _ _ ?_ (fun hHeld => ?_)
            · exact wcells5_below hHeld hb6
            clear hK K
            (try simp only [Act.put, List.setIfInBounds_toArray, List.set_cons_zero, List.set_cons_succ])
            have HB6 := Lib.hid (btrans HBA.out HBA.out.size hb6)
            have hBB : Bx wc.heap.size #[.slice none 0 0, .slice none 0 0, .int .i64 0, .int .i64 0, .bool false] 38 w6 := (Bx.new wc.drew _ _).call hb6
            refine wpAnyH_ready (rs := [5]) (by kernel_rfl) (by simp) ?_
            refine (AllReadyH.cons rfl (fun K hK => ?_) AllReadyH.nil)
            go_simp
            (refine (Rwrite_any _ _ _ _ d (2 + (otherA j.x - 1) * (arN d : Int)) SL pa2 pc2 (d1, e1) _ (HD.out.below HB6.out) (HSV.out.below HB6.out) HRR.out HSB.out.1 HSB.out.2 hp (by omega)).mono ?_; rintro er w7 ⟨a5, c5, a6, c6, rfl, hL5, hb5⟩)
            (try go_wp2_with fail)
            refine hK.out _ _ ?_ (fun hHeld => ?_)
            · exact wcells5_below hHeld hb5
            clear hK K
            (try simp only [Act.put, List.setIfInBounds_toArray, List.set_cons_zero, List.set_cons_succ])
            have HB5 := Lib.hid (btrans HB6.out HB6.out.size hb5)
            have hBA := hBB.call hb5
            refine takeH (i := 6) (v := ?vv13) 86 rfl rfl (by kernel_rfl) (by kernel_rfl) (by kernel_rfl) (fun _ _ _ h => h) (Or.inl ⟨by kernel_rfl, ?yy13⟩) (by assumption) ?_
            case yy13 => intro w hSw; (try dsimp only at hSw); go_simp; (try with_reducible rfl)
            simp only [List.setIfInBounds_toArray, List.set_cons_zero, List.set_cons_succ]
            refine takeH (i := 7) (v := ?vv14) 93 rfl rfl (by kernel_rfl) (by kernel_rfl) (by kernel_rfl) (fun _ _ _ h => h) (Or.inl ⟨by kernel_rfl, ?yy14⟩) (by assumption) ?_
            case yy14 => intro w hSw; (try dsimp only at hSw); go_simp; (try with_reducible rfl)
            simp only [List.setIfInBounds_toArray, List.set_cons_zero, List.set_cons_succ]
            refine takeH (i := 8) (v := ?vv15) 94 rfl rfl (by kernel_rfl) (by kernel_rfl) (by kernel_rfl) (fun _ _ _ h => h) (Or.inl ⟨by kernel_rfl, ?yy15⟩) (by assumption) ?_
            case yy15 => intro w hSw; (try dsimp only at hSw); go_simp; (try with_reducible rfl)
            simp only [List.setIfInBounds_toArray, List.set_cons_zero, List.set_cons_succ]
            have r0 : w7.cell? ⟨wc.heap.size, 0, none⟩ = some (.slice none 0 0) := hBA.cell 0
            have r1 : w7.cell? ⟨wc.heap.size, 1, none⟩ = some (.slice none 0 0) := hBA.cell 1
            have r2 : w7.cell? ⟨wc.heap.size, 2, none⟩ = some (.int .i64 0) := hBA.cell 2
            have r3 : w7.cell? ⟨wc.heap.size, 3, none⟩ = some (.int .i64 0) := hBA.cell 3
            have r4 : w7.cell? ⟨wc.heap.size, 4, none⟩ = some (.bool false) := hBA.cell 4
            have g0 := hBA.free 0
            have g1 := hBA.free 1
            have g2 := hBA.free 2
            have g3 := hBA.free 3
            have g4 := hBA.free 4
            have zx := HX.out.lt
            skip
            refine wpAnyH_ready (rs := [10]) (by kernel_rfl) (by simp) ?_
            refine (AllReadyH.cons rfl (fun K hK => ?_) AllReadyH.nil)
            go_simp
            skip
            (try go_wp2_with fail)
            refine hK.out _ _ ?_ (fun hHeld => ?_)
            · exact vcells5_sets (by assumption) (wc.heap.size) (by omega) _ _ _ _ _
            clear hK K
            (try simp only [Act.put, List.setIfInBounds_toArray, List.set_cons_zero, List.set_cons_succ])
            refine takeH (i := 11) (v := ?vv16) 13 rfl rfl (by kernel_rfl) (by kernel_rfl) (by kernel_rfl) (fun _ _ _ h => h) (Or.inl ⟨by kernel_rfl, ?yy16⟩) (by assumption) ?_
            case yy16 => intro w hSw; (try dsimp only at hSw); go_simp; (try with_reducible rfl)
            simp only [List.setIfInBounds_toArray, List.set_cons_zero, List.set_cons_succ]
            refine wpAnyH_done (by kernel_rfl) ?_ _
            go_wp2_with fail
            go_meet
            exact ⟨_, _, _, _, _, rfl, rfl, hBA.sets _ _ _ _ _, hL5.sets_box hBA _ _ _ _ _, below_sets HB5.out wc.heap.size (Nat.le_refl _) _ _ _ _ _, Nat.le_refl _⟩
        case rest =>
          obtain ⟨bb, a5, c5, a6, c6, rfl, rfl, h1, h2, hbd, zbb⟩ := hcut
          have zjo := HJ2.out.lt
          have HN := Lib.hid h1; have HL1 := Lib.hid h2; clear h1 h2 HS5 HSV
          have HR := Lib.hid (HR.out.call hbd)
          have HJ2 := Lib.hid (HJ2.out.call hbd)
          have HB := Lib.hid (btrans HB.out HB.out.size hbd); clear hbd
          have zj9 := HJ2.out.lt
          by_cases hf1 : e1 = 0
          rotate_left
          · have tf : (e1 != 0) = true := by rw [bne_iff_ne]; exact hf1
            have HFE := Lib.hid hf1; clear hf1
            have hres : resW d j l p = (d1, j0, e1) := by rw [resE_go HRA.out HLIM.out HSP.out (by omega) (show resQ SL d (2 + (otherA j.x - 1) * (arN d : Int)) (resX j l p) = (d1, e1) by unfold resQ; rw [HRR.out]; simp only; rw [if_neg HFE.out]), if_neg HFE.out]
            have HRES := Lib.hid hres; clear hres
            have n0 : wc.cell? ⟨bb, 0, none⟩ = some (.slice a5 d1.S.length c5) := HN.out.cell 0
            have n1 : wc.cell? ⟨bb, 1, none⟩ = some (.slice a6 d1.P.length c6) := HN.out.cell 1
            have n2 : wc.cell? ⟨bb, 2, none⟩ = some (.int .i64 d1.fuse) := HN.out.cell 2
            have n3 : wc.cell? ⟨bb, 3, none⟩ = some (.int .i64 d1.ops) := HN.out.cell 3
            have n4 : wc.cell? ⟨bb, 4, none⟩ = some (.bool d1.dead) := HN.out.cell 4
            have r0 : wc.cell? ⟨(w.heap.size + 2), 0, none⟩ = some (.slice none 0 0) := HR.out.cell 0
            have r1 : wc.cell? ⟨(w.heap.size + 2), 1, none⟩ = some (.slice none 0 0) := HR.out.cell 1
            have r2 : wc.cell? ⟨(w.heap.size + 2), 2, none⟩ = some (.int .i64 0) := HR.out.cell 2
            have r3 : wc.cell? ⟨(w.heap.size + 2), 3, none⟩ = some (.int .i64 0) := HR.out.cell 3
            have r4 : wc.cell? ⟨(w.heap.size + 2), 4, none⟩ = some (.bool false) := HR.out.cell 4
            have q0 : wc.cell? ⟨(w.heap.size + 3), 0, none⟩ = some (.int .i64 0) := HJ2.out.cell 0
            have q1 : wc.cell? ⟨(w.heap.size + 3), 1, none⟩ = some (.int .i64 0) := HJ2.out.cell 1
            have q2 : wc.cell? ⟨(w.heap.size + 3), 2, none⟩ = some (.int .i64 0) := HJ2.out.cell 2
            have q3 : wc.cell? ⟨(w.heap.size + 3), 3, none⟩ = some (.int .i64 0) := HJ2.out.cell 3
            have q4 : wc.cell? ⟨(w.heap.size + 3), 4, none⟩ = some (.int .i64 0) := HJ2.out.cell 4
            have q5 : wc.cell? ⟨(w.heap.size + 3), 5, none⟩ = some (.int .i64 0) := HJ2.out.cell 5
            have q6 : wc.cell? ⟨(w.heap.size + 3), 6, none⟩ = some (.int .i64 0) := HJ2.out.cell 6
            have f0 := HR.out.free 0
            have f1 := HR.out.free 1
            have f2 := HR.out.free 2
            have f3 := HR.out.free 3
            have f4 := HR.out.free 4
            have p0 := HJ2.out.free 0
            have p1 := HJ2.out.free 1
            have p2 := HJ2.out.free 2
            have p3 := HJ2.out.free 3
            have p4 := HJ2.out.free 4
            have p5 := HJ2.out.free 5
            have p6 := HJ2.out.free 6
            have HJ3 := Lib.hid (HJ2.out.sets_ne (c := w.heap.size + 2) (by omega) (.slice a5 d1.S.length c5) (.slice a6 d1.P.length c6) (.int .i64 d1.fuse) (.int .i64 d1.ops) (.bool d1.dead))
            have KR := Lib.hid ((HR.out.sets (.slice a5 d1.S.length c5) (.slice a6 d1.P.length c6) (.int .i64 d1.fuse) (.int .i64 d1.ops) (.bool d1.dead)).sets7_ne (c := w.heap.size + 3) (by omega) (.int .i64 0) (.int .i64 0) (.int .i64 0) (.int .i64 0) (.int .i64 0) (.int .i64 0) (.int .i64 0))
            have KJ := Lib.hid (HJ3.out.sets7 (.int .i64 0) (.int .i64 0) (.int .i64 0) (.int .i64 0) (.int .i64 0) (.int .i64 0) (.int .i64 0))
            have KL := Lib.hid ((HL1.out.sets_box HR.out (.slice a5 d1.S.length c5) (.slice a6 d1.P.length c6) (.int .i64 d1.fuse) (.int .i64 d1.ops) (.bool d1.dead)).sets7i HJ3.out (.int .i64 0) (.int .i64 0) (.int .i64 0) (.int .i64 0) (.int .i64 0) (.int .i64 0) (.int .i64 0))
            have KB := Lib.hid (below_sets7 (below_sets HB.out (w.heap.size + 2) (by omega) (.slice a5 d1.S.length c5) (.slice a6 d1.P.length c6) (.int .i64 d1.fuse) (.int .i64 d1.ops) (.bool d1.dead)) (w.heap.size + 3) (by omega) (.int .i64 0) (.int .i64 0) (.int .i64 0) (.int .i64 0) (.int .i64 0) (.int .i64 0) (.int .i64 0))
            go_wp2
            have k0 := KR.out.cell 0
            have k1 := KR.out.cell 1
            have k2 := KR.out.cell 2
            have k3 := KR.out.cell 3
            have k4 := KR.out.cell 4
            have m0 := KJ.out.cell 0
            have m1 := KJ.out.cell 1
            have m2 := KJ.out.cell 2
            have m3 := KJ.out.cell 3
            have m4 := KJ.out.cell 4
            have m5 := KJ.out.cell 5
            have m6 := KJ.out.cell 6
            simp only [List.getElem?_toArray, List.getElem?_cons_zero, List.getElem?_cons_succ] at k0 k1 k2 k3 k4 m0 m1 m2 m3 m4 m5 m6
            refine bodyPost_ret (v := .tuple #[.agg #[.slice a5 d1.S.length c5, .slice a6 d1.P.length c6, .int .i64 d1.fuse, .int .i64 d1.ops, .bool d1.dead], .agg #[.int .i64 0, .int .i64 0, .int .i64 0, .int .i64 0, .int .i64 0, .int .i64 0, .int .i64 0], .int .i64 e1]) (by simp [results, Try.results46, go_sem, k0, k1, k2, k3, k4, m0, m1, m2, m3, m4, m5, m6]) rfl ?_
            exact APost.mk (d1, j0, e1) a5 c5 a6 c6 rfl KL.out KB.out HRES.out
          subst hf1
          have hal := (Below.refl wc.heap.size wc).alloc (Nat.le_refl _) (.cells #[.int .i64 (j.x.g + 1), .int .i64 (j.x.g + 1), .int .i64 (otherA j.x), .int .i64 (l.length : Int), .int .i64 p] 23)
          have HXB := Lib.hid (Bx.new wc #[.int .i64 (j.x.g + 1), .int .i64 (j.x.g + 1), .int .i64 (otherA j.x), .int .i64 (l.length : Int), .int .i64 p] 23)
          have HR := Lib.hid (HR.out.call hal)
          have HJ2 := Lib.hid (HJ2.out.call hal)
          have HN := Lib.hid (HN.out.call hal)
          have HL1 := Lib.hid (HL1.out.below hal)
          have HB := Lib.hid (btrans HB.out HB.out.size hal); clear hal
          go_upto_region 19 with (fail)
          generalize hW : wc.alloc (.cells #[.int .i64 (j.x.g + 1), .int .i64 (j.x.g + 1), .int .i64 (otherA j.x), .int .i64 (l.length : Int), .int .i64 p] 23) = v5 at HR HJ2 HN HL1 HB HXB ⊢
          clear hW
          have zx := HXB.out.lt
          have zj5 := HJ2.out.lt
          have n0 : v5.cell? ⟨bb, 0, none⟩ = some (.slice a5 d1.S.length c5) := HN.out.cell 0
          have n1 : v5.cell? ⟨bb, 1, none⟩ = some (.slice a6 d1.P.length c6) := HN.out.cell 1
          have n2 : v5.cell? ⟨bb, 2, none⟩ = some (.int .i64 d1.fuse) := HN.out.cell 2
          have n3 : v5.cell? ⟨bb, 3, none⟩ = some (.int .i64 d1.ops) := HN.out.cell 3
          have n4 : v5.cell? ⟨bb, 4, none⟩ = some (.bool d1.dead) := HN.out.cell 4
          have s0 : v5.cell? ⟨wc.heap.size, 0, none⟩ = some (.int .i64 (j.x.g + 1)) := HXB.out.cell 0
          have s1 : v5.cell? ⟨wc.heap.size, 1, none⟩ = some (.int .i64 (j.x.g + 1)) := HXB.out.cell 1
          have s2 : v5.cell? ⟨wc.heap.size, 2, none⟩ = some (.int .i64 (otherA j.x)) := HXB.out.cell 2
          have s3 : v5.cell? ⟨wc.heap.size, 3, none⟩ = some (.int .i64 (l.length : Int)) := HXB.out.cell 3
          have s4 : v5.cell? ⟨wc.heap.size, 4, none⟩ = some (.int .i64 p) := HXB.out.cell 4
          obtain ⟨⟨d2, e2⟩, hst2⟩ : ∃ r, storeS d1 (resX j l p) = r := ⟨_, rfl⟩
          have HS2 := Lib.hid hst2; clear hst2
          go_wp2_with fail
          refine (RSStore_any _ _ _ _ d1 (resX j l p) _ HL1.out (by omega)).mono ?_
          rw [HS2.out]
          rintro er w8 ⟨a3, c3, a4, c4, rfl, hL8, hb1⟩
          clear n0 n1 n2 n3 n4
          clear s0 s1 s2 s3 s4
          have HR := Lib.hid (HR.out.call hb1)
          have HJ2 := Lib.hid (HJ2.out.call hb1)
          have HXB := Lib.hid (HXB.out.call hb1)
          have HB := Lib.hid (btrans HB.out HB.out.size hb1); clear hb1
          have zw8 := HJ2.out.lt; have zx8 := HXB.out.lt
          have hal := (Below.refl w8.heap.size w8).alloc (Nat.le_refl _) (.cells #[.slice a3 d2.S.length c3, .slice a4 d2.P.length c4, .int .i64 d2.fuse, .int .i64 d2.ops, .bool d2.dead] 38)
          have HN2 := Lib.hid (Bx.new w8 #[.slice a3 d2.S.length c3, .slice a4 d2.P.length c4, .int .i64 d2.fuse, .int .i64 d2.ops, .bool d2.dead] 38)
          have HL4 := Lib.hid (hL8.below hal); clear hL8
          have HR := Lib.hid (HR.out.call hal)
          have HJ2 := Lib.hid (HJ2.out.call hal)
          have HXB := Lib.hid (HXB.out.call hal)
          have HB := Lib.hid (btrans HB.out HB.out.size hal); clear hal
          go_upto_region 20 with (fail)
          generalize hW : w8.alloc (.cells #[.slice a3 d2.S.length c3, .slice a4 d2.P.length c4, .int .i64 d2.fuse, .int .i64 d2.ops, .bool d2.dead] 38) = v8 at HR HJ2 HXB HB HN2 HL4 ⊢
          clear hW
          by_cases hf2 : e2 = 0
          rotate_left
          · have tf : (e2 != 0) = true := by rw [bne_iff_ne]; exact hf2
            have HFE := Lib.hid hf2; clear hf2
            have hres : resW d j l p = (d2, j0, e2) := by rw [resE_go HRA.out HLIM.out HSP.out (by omega) (show resQ SL d (2 + (otherA j.x - 1) * (arN d : Int)) (resX j l p) = (d2, e2) by unfold resQ; rw [HRR.out]; simp only; rw [if_pos trivial, HS2.out]), if_neg HFE.out]
            have HRES := Lib.hid hres; clear hres
            have n0 : v8.cell? ⟨w8.heap.size, 0, none⟩ = some (.slice a3 d2.S.length c3) := HN2.out.cell 0
            have n1 : v8.cell? ⟨w8.heap.size, 1, none⟩ = some (.slice a4 d2.P.length c4) := HN2.out.cell 1
            have n2 : v8.cell? ⟨w8.heap.size, 2, none⟩ = some (.int .i64 d2.fuse) := HN2.out.cell 2
            have n3 : v8.cell? ⟨w8.heap.size, 3, none⟩ = some (.int .i64 d2.ops) := HN2.out.cell 3
            have n4 : v8.cell? ⟨w8.heap.size, 4, none⟩ = some (.bool d2.dead) := HN2.out.cell 4
            have zj8 := HJ2.out.lt
            have r0 : v8.cell? ⟨(w.heap.size + 2), 0, none⟩ = some (.slice none 0 0) := HR.out.cell 0
            have r1 : v8.cell? ⟨(w.heap.size + 2), 1, none⟩ = some (.slice none 0 0) := HR.out.cell 1
            have r2 : v8.cell? ⟨(w.heap.size + 2), 2, none⟩ = some (.int .i64 0) := HR.out.cell 2
            have r3 : v8.cell? ⟨(w.heap.size + 2), 3, none⟩ = some (.int .i64 0) := HR.out.cell 3
            have r4 : v8.cell? ⟨(w.heap.size + 2), 4, none⟩ = some (.bool false) := HR.out.cell 4
            have q0 : v8.cell? ⟨(w.heap.size + 3), 0, none⟩ = some (.int .i64 0) := HJ2.out.cell 0
            have q1 : v8.cell? ⟨(w.heap.size + 3), 1, none⟩ = some (.int .i64 0) := HJ2.out.cell 1
            have q2 : v8.cell? ⟨(w.heap.size + 3), 2, none⟩ = some (.int .i64 0) := HJ2.out.cell 2
            have q3 : v8.cell? ⟨(w.heap.size + 3), 3, none⟩ = some (.int .i64 0) := HJ2.out.cell 3
            have q4 : v8.cell? ⟨(w.heap.size + 3), 4, none⟩ = some (.int .i64 0) := HJ2.out.cell 4
            have q5 : v8.cell? ⟨(w.heap.size + 3), 5, none⟩ = some (.int .i64 0) := HJ2.out.cell 5
            have q6 : v8.cell? ⟨(w.heap.size + 3), 6, none⟩ = some (.int .i64 0) := HJ2.out.cell 6
            have f0 := HR.out.free 0
            have f1 := HR.out.free 1
            have f2 := HR.out.free 2
            have f3 := HR.out.free 3
            have f4 := HR.out.free 4
            have p0 := HJ2.out.free 0
            have p1 := HJ2.out.free 1
            have p2 := HJ2.out.free 2
            have p3 := HJ2.out.free 3
            have p4 := HJ2.out.free 4
            have p5 := HJ2.out.free 5
            have p6 := HJ2.out.free 6
            have HJ3 := Lib.hid (HJ2.out.sets_ne (c := w.heap.size + 2) (by omega) (.slice a3 d2.S.length c3) (.slice a4 d2.P.length c4) (.int .i64 d2.fuse) (.int .i64 d2.ops) (.bool d2.dead))
            have KR := Lib.hid ((HR.out.sets (.slice a3 d2.S.length c3) (.slice a4 d2.P.length c4) (.int .i64 d2.fuse) (.int .i64 d2.ops) (.bool d2.dead)).sets7_ne (c := w.heap.size + 3) (by omega) (.int .i64 0) (.int .i64 0) (.int .i64 0) (.int .i64 0) (.int .i64 0) (.int .i64 0) (.int .i64 0))
            have KJ := Lib.hid (HJ3.out.sets7 (.int .i64 0) (.int .i64 0) (.int .i64 0) (.int .i64 0) (.int .i64 0) (.int .i64 0) (.int .i64 0))
            have KL := Lib.hid ((HL4.out.sets_box HR.out (.slice a3 d2.S.length c3) (.slice a4 d2.P.length c4) (.int .i64 d2.fuse) (.int .i64 d2.ops) (.bool d2.dead)).sets7i HJ3.out (.int .i64 0) (.int .i64 0) (.int .i64 0) (.int .i64 0) (.int .i64 0) (.int .i64 0) (.int .i64 0))
            have KB := Lib.hid (below_sets7 (below_sets HB.out (w.heap.size + 2) (by omega) (.slice a3 d2.S.length c3) (.slice a4 d2.P.length c4) (.int .i64 d2.fuse) (.int .i64 d2.ops) (.bool d2.dead)) (w.heap.size + 3) (by omega) (.int .i64 0) (.int .i64 0) (.int .i64 0) (.int .i64 0) (.int .i64 0) (.int .i64 0) (.int .i64 0))
            go_wp2
            have k0 := KR.out.cell 0
            have k1 := KR.out.cell 1
            have k2 := KR.out.cell 2
            have k3 := KR.out.cell 3
            have k4 := KR.out.cell 4
            have m0 := KJ.out.cell 0
            have m1 := KJ.out.cell 1
            have m2 := KJ.out.cell 2
            have m3 := KJ.out.cell 3
            have m4 := KJ.out.cell 4
            have m5 := KJ.out.cell 5
            have m6 := KJ.out.cell 6
            simp only [List.getElem?_toArray, List.getElem?_cons_zero, List.getElem?_cons_succ] at k0 k1 k2 k3 k4 m0 m1 m2 m3 m4 m5 m6
            refine bodyPost_ret (v := .tuple #[.agg #[.slice a3 d2.S.length c3, .slice a4 d2.P.length c4, .int .i64 d2.fuse, .int .i64 d2.ops, .bool d2.dead], .agg #[.int .i64 0, .int .i64 0, .int .i64 0, .int .i64 0, .int .i64 0, .int .i64 0, .int .i64 0], .int .i64 e2]) (by simp [results, Try.results46, go_sem, k0, k1, k2, k3, k4, m0, m1, m2, m3, m4, m5, m6]) rfl ?_
            exact APost.mk (d2, j0, e2) a3 c3 a4 c4 rfl KL.out KB.out HRES.out
          subst hf2
          have hres : resW d j l p = (d2, ⟨resX j l p, 0, 0⟩, 0) := by rw [resE_go HRA.out HLIM.out HSP.out (by omega) (show resQ SL d (2 + (otherA j.x - 1) * (arN d : Int)) (resX j l p) = (d2, 0) by unfold resQ; rw [HRR.out]; simp only; rw [if_pos trivial, HS2.out]), if_pos rfl]
          have HRES := Lib.hid hres; clear hres
          have n0 : v8.cell? ⟨w8.heap.size, 0, none⟩ = some (.slice a3 d2.S.length c3) := HN2.out.cell 0
          have n1 : v8.cell? ⟨w8.heap.size, 1, none⟩ = some (.slice a4 d2.P.length c4) := HN2.out.cell 1
          have n2 : v8.cell? ⟨w8.heap.size, 2, none⟩ = some (.int .i64 d2.fuse) := HN2.out.cell 2
          have n3 : v8.cell? ⟨w8.heap.size, 3, none⟩ = some (.int .i64 d2.ops) := HN2.out.cell 3
          have n4 : v8.cell? ⟨w8.heap.size, 4, none⟩ = some (.bool d2.dead) := HN2.out.cell 4
          have s0 : v8.cell? ⟨wc.heap.size, 0, none⟩ = some (.int .i64 (j.x.g + 1)) := HXB.out.cell 0
          have s1 : v8.cell? ⟨wc.heap.size, 1, none⟩ = some (.int .i64 (j.x.g + 1)) := HXB.out.cell 1
          have s2 : v8.cell? ⟨wc.heap.size, 2, none⟩ = some (.int .i64 (otherA j.x)) := HXB.out.cell 2
          have s3 : v8.cell? ⟨wc.heap.size, 3, none⟩ = some (.int .i64 (l.length : Int)) := HXB.out.cell 3
          have s4 : v8.cell? ⟨wc.heap.size, 4, none⟩ = some (.int .i64 p) := HXB.out.cell 4
          have hsL : v8.drew.cell? ⟨(w8.heap.size), 0, none⟩ = some (.slice a3 d2.S.length c3) ∧ v8.drew.cell? ⟨(w8.heap.size), 1, none⟩ = some (.slice a4 d2.P.length c4) ∧ v8.drew.cell? ⟨(w8.heap.size), 2, none⟩ = some (.int .i64 d2.fuse) ∧ v8.drew.cell? ⟨(w8.heap.size), 3, none⟩ = some (.int .i64 d2.ops) ∧ v8.drew.cell? ⟨(w8.heap.size), 4, none⟩ = some (.bool d2.dead) ∧ v8.drew.cell? ⟨(wc.heap.size), 0, none⟩ = some (.int .i64 (j.x.g + 1)) ∧ v8.drew.cell? ⟨(wc.heap.size), 1, none⟩ = some (.int .i64 (j.x.g + 1)) ∧ v8.drew.cell? ⟨(wc.heap.size), 2, none⟩ = some (.int .i64 (otherA j.x)) ∧ v8.drew.cell? ⟨(wc.heap.size), 3, none⟩ = some (.int .i64 (l.length : Int)) ∧ v8.drew.cell? ⟨(wc.heap.size), 4, none⟩ = some (.int .i64 p) := ⟨n0, n1, n2, n3, n4, s0, s1, s2, s3, s4⟩
          have HSL := Lib.hid hsL; clear hsL n0 n1 n2 n3 n4 s0 s1 s2 s3 s4
          go_wp2_with fail
          refine wp_region_held_drew (S := (fun w' => w'.cell? ⟨(w8.heap.size), 0, none⟩ = some (.slice a3 d2.S.length c3) ∧ w'.cell? ⟨(w8.heap.size), 1, none⟩ = some (.slice a4 d2.P.length c4) ∧ w'.cell? ⟨(w8.heap.size), 2, none⟩ = some (.int .i64 d2.fuse) ∧ w'.cell? ⟨(w8.heap.size), 3, none⟩ = some (.int .i64 d2.ops) ∧ w'.cell? ⟨(w8.heap.size), 4, none⟩ = some (.bool d2.dead) ∧ w'.cell? ⟨(wc.heap.size), 0, none⟩ = some (.int .i64 (j.x.g + 1)) ∧ w'.cell? ⟨(wc.heap.size), 1, none⟩ = some (.int .i64 (j.x.g + 1)) ∧ w'.cell? ⟨(wc.heap.size), 2, none⟩ = some (.int .i64 (otherA j.x)) ∧ w'.cell? ⟨(wc.heap.size), 3, none⟩ = some (.int .i64 (l.length : Int)) ∧ w'.cell? ⟨(wc.heap.size), 4, none⟩ = some (.int .i64 p))) (by kernel_rfl) ?_ (fun hHeld => ?_)
          · exact HSL.out
          refine takeH (i := 0) (v := ?vv17) 118 rfl rfl (by kernel_rfl) (by kernel_rfl) (by kernel_rfl) (fun _ _ _ h => h) (Or.inl ⟨by kernel_rfl, ?yy17⟩) (by assumption) ?_
          case yy17 => intro w hSw; (try dsimp only at hSw); go_simp; (try with_reducible rfl)
          simp only [List.setIfInBounds_toArray, List.set_cons_zero, List.set_cons_succ]
          refine takeH (i := 1) (v := ?vv18) 119 rfl rfl (by kernel_rfl) (by kernel_rfl) (by kernel_rfl) (fun _ _ _ h => h) (Or.inl ⟨by kernel_rfl, ?yy18⟩) (by assumption) ?_
          case yy18 => intro w hSw; (try dsimp only at hSw); go_simp; (try with_reducible rfl)
          simp only [List.setIfInBounds_toArray, List.set_cons_zero, List.set_cons_succ]
          refine takeH (i := 2) (v := ?vv19) 120 rfl rfl (by kernel_rfl) (by kernel_rfl) (by kernel_rfl) (fun _ _ _ h => h) (Or.inl ⟨by kernel_rfl, ?yy19⟩) (by assumption) ?_
          case yy19 => intro w hSw; (try dsimp only at hSw); go_simp; (try with_reducible rfl)
          simp only [List.setIfInBounds_toArray, List.set_cons_zero, List.set_cons_succ]
          refine wpAnyH_ready (rs := [3]) (by kernel_rfl) (by simp) ?_
          refine (AllReadyH.cons rfl (fun K hK => ?_) AllReadyH.nil)
          have r0 : v8.cell? ⟨(w.heap.size + 2), 0, none⟩ = some (.slice none 0 0) := HR.out.cell 0
          have r1 : v8.cell? ⟨(w.heap.size + 2), 1, none⟩ = some (.slice none 0 0) := HR.out.cell 1
          have r2 : v8.cell? ⟨(w.heap.size + 2), 2, none⟩ = some (.int .i64 0) := HR.out.cell 2
          have r3 : v8.cell? ⟨(w.heap.size + 2), 3, none⟩ = some (.int .i64 0) := HR.out.cell 3
          have r4 : v8.cell? ⟨(w.heap.size + 2), 4, none⟩ = some (.bool false) := HR.out.cell 4
          have f0 : v8.frozen? ⟨(w.heap.size + 2), 0, none⟩ = false := HR.out.free 0
          have f1 : v8.frozen? ⟨(w.heap.size + 2), 1, none⟩ = false := HR.out.free 1
          have f2 : v8.frozen? ⟨(w.heap.size + 2), 2, none⟩ = false := HR.out.free 2
          have f3 : v8.frozen? ⟨(w.heap.size + 2), 3, none⟩ = false := HR.out.free 3
          have f4 : v8.frozen? ⟨(w.heap.size + 2), 4, none⟩ = false := HR.out.free 4
          go_simp
          refine hK.out _ _ ?_ (fun hHeld => ?_)
          · exact wc_xxxxxyyyyy_5 (W := v8) (by assumption) (w.heap.size + 2) (by omega) (by omega) _ _ _ _ _
          clear hK K
          (try simp only [Act.put, List.setIfInBounds_toArray, List.set_cons_zero, List.set_cons_succ])
          clear r0 r1 r2 r3 r4
          clear f0 f1 f2 f3 f4
          have HRa := Lib.hid (HR.out.sets (.slice a3 d2.S.length c3) (.slice a4 d2.P.length c4) (.int .i64 d2.fuse) (.int .i64 d2.ops) (.bool d2.dead)); have HJa := Lib.hid (HJ2.out.sets_ne (c := w.heap.size + 2) (by omega) (.slice a3 d2.S.length c3) (.slice a4 d2.P.length c4) (.int .i64 d2.fuse) (.int .i64 d2.ops) (.bool d2.dead)); have HBa := Lib.hid (below_sets HB.out (w.heap.size + 2) (by omega) (.slice a3 d2.S.length c3) (.slice a4 d2.P.length c4) (.int .i64 d2.fuse) (.int .i64 d2.ops) (.bool d2.dead)); have HLa := Lib.hid (HL4.out.sets_box HR.out (.slice a3 d2.S.length c3) (.slice a4 d2.P.length c4) (.int .i64 d2.fuse) (.int .i64 d2.ops) (.bool d2.dead))
          generalize hWE : (((((v8.setCell ⟨(w.heap.size + 2), 0, none⟩ (.slice a3 d2.S.length c3)).setCell ⟨(w.heap.size + 2), 1, none⟩ (.slice a4 d2.P.length c4)).setCell ⟨(w.heap.size + 2), 2, none⟩ (.int .i64 d2.fuse)).setCell ⟨(w.heap.size + 2), 3, none⟩ (.int .i64 d2.ops)).setCell ⟨(w.heap.size + 2), 4, none⟩ (.bool d2.dead)) = WE at HRa HJa HBa HLa hHeld ⊢
          clear hWE
          refine wpAnyH_ready (rs := [4]) (by kernel_rfl) (by simp) ?_
          refine (AllReadyH.cons rfl (fun K hK => ?_) AllReadyH.nil)
          have q0 : WE.cell? ⟨(w.heap.size + 3), 0, none⟩ = some (.int .i64 0) := HJa.out.cell 0
          have q1 : WE.cell? ⟨(w.heap.size + 3), 1, none⟩ = some (.int .i64 0) := HJa.out.cell 1
          have q2 : WE.cell? ⟨(w.heap.size + 3), 2, none⟩ = some (.int .i64 0) := HJa.out.cell 2
          have q3 : WE.cell? ⟨(w.heap.size + 3), 3, none⟩ = some (.int .i64 0) := HJa.out.cell 3
          have q4 : WE.cell? ⟨(w.heap.size + 3), 4, none⟩ = some (.int .i64 0) := HJa.out.cell 4
          have q5 : WE.cell? ⟨(w.heap.size + 3), 5, none⟩ = some (.int .i64 0) := HJa.out.cell 5
          have q6 : WE.cell? ⟨(w.heap.size + 3), 6, none⟩ = some (.int .i64 0) := HJa.out.cell 6
          have p0 : WE.frozen? ⟨(w.heap.size + 3), 0, none⟩ = false := HJa.out.free 0
          have p1 : WE.frozen? ⟨(w.heap.size + 3), 1, none⟩ = false := HJa.out.free 1
          have p2 : WE.frozen? ⟨(w.heap.size + 3), 2, none⟩ = false := HJa.out.free 2
          have p3 : WE.frozen? ⟨(w.heap.size + 3), 3, none⟩ = false := HJa.out.free 3
          have p4 : WE.frozen? ⟨(w.heap.size + 3), 4, none⟩ = false := HJa.out.free 4
          have p5 : WE.frozen? ⟨(w.heap.size + 3), 5, none⟩ = false := HJa.out.free 5
          have p6 : WE.frozen? ⟨(w.heap.size + 3), 6, none⟩ = false := HJa.out.free 6
          go_simp
          refine hK.out _ _ ?_ (fun hHeld => ?_)
          · exact wc_xxxxxyyyyy_7 (W := WE) (by assumption) (w.heap.size + 3) (by omega) (by omega) _ _ _ _ _ _ _
          clear hK K
          (try simp only [Act.put, List.setIfInBounds_toArray, List.set_cons_zero, List.set_cons_succ])
          refine takeH (i := 5) (v := ?vv20) 10 rfl rfl (by kernel_rfl) (by kernel_rfl) (by kernel_rfl) (fun _ _ _ h => h) (Or.inl ⟨by kernel_rfl, ?yy20⟩) (by assumption) ?_
          case yy20 => intro w hSw; (try dsimp only at hSw); go_simp; (try with_reducible rfl)
          simp only [List.setIfInBounds_toArray, List.set_cons_zero, List.set_cons_succ]
          refine wpAnyH_done (by kernel_rfl) ?_ _
          have KR := Lib.hid (HRa.out.sets7_ne (c := w.heap.size + 3) (by omega) (.int .i64 (j.x.g + 1)) (.int .i64 (j.x.g + 1)) (.int .i64 (otherA j.x)) (.int .i64 (l.length : Int)) (.int .i64 p) (.int .i64 0) (.int .i64 0)); have KJ := Lib.hid (HJa.out.sets7 (.int .i64 (j.x.g + 1)) (.int .i64 (j.x.g + 1)) (.int .i64 (otherA j.x)) (.int .i64 (l.length : Int)) (.int .i64 p) (.int .i64 0) (.int .i64 0)); have KL := Lib.hid (HLa.out.sets7i HJa.out (.int .i64 (j.x.g + 1)) (.int .i64 (j.x.g + 1)) (.int .i64 (otherA j.x)) (.int .i64 (l.length : Int)) (.int .i64 p) (.int .i64 0) (.int .i64 0)).drewD; have KB := Lib.hid (below_sets7 HBa.out (w.heap.size + 3) (by omega) (.int .i64 (j.x.g + 1)) (.int .i64 (j.x.g + 1)) (.int .i64 (otherA j.x)) (.int .i64 (l.length : Int)) (.int .i64 p) (.int .i64 0) (.int .i64 0)).drew
          go_wp2
          have k0 := KR.out.cell 0
          have k1 := KR.out.cell 1
          have k2 := KR.out.cell 2
          have k3 := KR.out.cell 3
          have k4 := KR.out.cell 4
          have m0 := KJ.out.cell 0
          have m1 := KJ.out.cell 1
          have m2 := KJ.out.cell 2
          have m3 := KJ.out.cell 3
          have m4 := KJ.out.cell 4
          have m5 := KJ.out.cell 5
          have m6 := KJ.out.cell 6
          simp only [List.getElem?_toArray, List.getElem?_cons_zero, List.getElem?_cons_succ] at k0 k1 k2 k3 k4 m0 m1 m2 m3 m4 m5 m6
          refine bodyPost_ret (v := .tuple #[.agg #[.slice a3 d2.S.length c3, .slice a4 d2.P.length c4, .int .i64 d2.fuse, .int .i64 d2.ops, .bool d2.dead], .agg #[.int .i64 (j.x.g + 1), .int .i64 (j.x.g + 1), .int .i64 (otherA j.x), .int .i64 (l.length : Int), .int .i64 p, .int .i64 0, .int .i64 0], .int .i64 0]) (by simp [results, Try.results46, go_sem, k0, k1, k2, k3, k4, m0, m1, m2, m3, m4, m5, m6]) rfl ?_
          exact APost.mk (d2, ⟨resX j l p, 0, 0⟩, 0) a3 c3 a4 c4 rfl KL.out KB.out HRES.out
end Go.Proofs.Ytkpfkknldeafkaa
